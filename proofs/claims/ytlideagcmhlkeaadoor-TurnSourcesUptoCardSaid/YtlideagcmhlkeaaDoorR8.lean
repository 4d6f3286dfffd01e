/- Texts of one proof, one behind the other: RinvE; Plain29b; Rt29; Equal29; Of30; Num30; Exp30; Expand30; Work30; Num20i; Ref30; Rexp30; Few14; Laws30f; Open20. -/
import Derived.Test.YtlideagcmhlkeaaDoorR7
import Derived.IntWalk
import Derived.BigQuiet
import Derived.Deep.RegionHeld3
import Derived.BigRegion
import Derived.Deep.Slices
import Derived.Deep.Fields
import Derived.ChangeSame
import Derived.WideShapes

/- The law on regions that draw their order (Rinv), where what is kept may speak of which operations are behind us. No function of the program. -/
namespace Go.Proofs.YtlideagcmhlkeaaDoor
open Go
set_option linter.unusedVariables false

section
variable {P : Program} {ops : Array Oper} {Q : Exit → Act → World → Prop}
/-- THE LAW where what is kept (S) speaks of which operations are behind us. Each operation by itself, behind those that must stand ahead of it. fr: the frame by the slots that the region makes; val: the values known ahead; X: what the others leave, by the slots Kx; G: what a step may do to the world. -/
theorem wp_region_invE {id : Nat} {a : Act} {w : World} (fr : (Nat → Value) → Act) (y0 : Nat → Value) (val : Nat → Option Value) (X : Nat → (Nat → Value) → World → Prop) (Kx : Nat → List Nat) (G : World → World → Prop) (S : (Nat → Bool) → World → Prop)
    (hm : P.follows .mixedOrders = true) (ha : a = fr y0) (hS : S (fun _ => false) w.drew)
    (hlt : ∀ i, i < ops.size → ∀ d ∈ rdeps ops i, d < i)
    (hput : ∀ i d, i < ops.size → rdst ops i = some d → ∀ y v, (fr y).put (some d) v = fr (upd y (some d) v))
    (hloc : ∀ j, j < ops.size → val j = none → ∀ y y' w, (∀ k ∈ Kx j, y k = y' k) → X j y w → X j y' w)
    (hmono : ∀ j, j < ops.size → val j = none → (∃ i, i < ops.size ∧ i ≠ j ∧ i ∉ rdeps ops j) → ∀ y w w', G w w' → X j y w → X j y w')
    (hap : ∀ i j, i < ops.size → j < ops.size → i ≠ j → i ∉ rdeps ops j → ∀ d, rdst ops i = some d → (rdst ops j ≠ some d) ∧ (val j = none → d ∉ Kx j))
    (hstep : ∀ i, i < ops.size → ∀ o, ops[i]? = some o → ∀ y w ex, (ex i = false ∧ (∀ d ∈ rdeps ops i, ex d = true) ∧ ∀ j, ex j = true → ∀ d ∈ rdeps ops j, ex d = true) → S ex w → (∀ d ∈ rdeps ops i, Left17 ops val X d y w) →
      ∀ K' : Act → World → Prop, Shut (∀ v a' w', a' = (fr y).put o.dst v → G w w' → S (fun j => if j = i then true else ex j) w' → (val i = some v ∨ (val i = none ∧ X i (upd y o.dst v) w')) → K' a' w') →
        if Region.wanted o (yielded ops (fr y).tmps) = true then Oper.wp P o (fr y) w K' Q else K' ((fr y).put o.dst undef) w)
    (hdone : ∀ y w, S (fun j => decide (j < ops.size)) w → (∀ j, j < ops.size → Left17 ops val X j y w) → Q .normal (fr y) w) : (Code.region id ops true).wp P Q a w := by
  refine wp_region_any hm ?_
  refine wpAny_inv (fun listed a w => listed.size = ops.size ∧ ∃ y, a = fr y ∧ S (fun j => listed.getD j false) w ∧ (∀ j, listed.getD j false = true → j < ops.size ∧ Left17 ops val X j y w) ∧ ∀ j, listed.getD j false = true → ∀ d ∈ rdeps ops j, listed.getD d false = true) ?_ ?_ _ _ _ _ ?_ ?_
  · rintro listed a w i ⟨hsz, y, rfl, hSw, hl, hcl⟩ hi
    obtain ⟨h1, h2, h3⟩ := ready_spec hi
    have ho : ops[i]? = some (ops[i]'h1) := Array.getElem?_eq_getElem h1
    refine wpOp_step ho fun K' hK => ?_
    have hfl : listed.getD i false = false := by
      rw [Array.getD_eq_getD_getElem?] at h2 ⊢
      cases e2 : listed[i]? with
      | none => rfl
      | some b => rw [e2] at h2; exact h2
    refine hstep i h1 _ ho y w _ ⟨hfl, h3, hcl⟩ hSw (fun d hd => (hl d (h3 d hd)).2) K' ?_
    intro v a' w' ha' hG hS' hnew
    have hflag : (fun j => (listed.setIfInBounds i true).getD j false) = fun j => if j = i then true else listed.getD j false := by
      funext j
      rw [Array.getD_eq_getD_getElem?, Array.getElem?_setIfInBounds]
      by_cases e : i = j
      · subst e
        rw [if_pos rfl, if_pos (by omega), if_pos rfl]
        rfl
      · rw [if_neg e, if_neg (fun q => e q.symm), Array.getD_eq_getD_getElem?]
    refine hK _ _ ⟨by rw [Array.size_setIfInBounds]; exact hsz, upd y (ops[i]'h1).dst v, ?_, by rw [hflag]; exact hS', ?_, ?_⟩
    · rw [ha']
      cases hd : (ops[i]'h1).dst with
      | none => rfl
      | some d => exact hput i d h1 (by unfold rdst; rw [ho]; exact hd) y v
    · intro j hj
      by_cases hij : j = i
      · subst hij
        refine ⟨h1, ?_⟩
        unfold Left17
        rcases hnew with hv | ⟨hv, hx⟩
        · rw [hv]
          intro d hd
          have hd' : (ops[j]'h1).dst = some d := by unfold rdst at hd; rw [ho] at hd; exact hd
          rw [hd']
          show (if d = d then v else y d) = v
          rw [if_pos rfl]
        · rw [hv]; exact hx
      · have hj' : listed.getD j false = true := by
          rw [Array.getD_eq_getD_getElem?, Array.getElem?_setIfInBounds, if_neg (fun q => hij q.symm)] at hj
          rw [Array.getD_eq_getD_getElem?]; exact hj
        obtain ⟨hjn, hf⟩ := hl j hj'
        have hni : i ∉ rdeps ops j := fun q' => by
          have := hcl j hj' i q'
          rw [Array.getD_eq_getD_getElem?] at this h2
          cases e : listed[i]? with
          | none => rw [e] at this; cases this
          | some b => rw [e] at this h2; simp at this h2; rw [this] at h2; cases h2
        refine ⟨hjn, ?_⟩
        cases hd : (ops[i]'h1).dst with
        | none =>
          unfold Left17 at hf ⊢
          cases hv : val j with
          | some u => rw [hv] at hf; exact hf
          | none => rw [hv] at hf; exact hmono j hjn hv ⟨i, h1, fun q => hij q.symm, hni⟩ y w w' hG hf
        | some d =>
          obtain ⟨a1, a2⟩ := hap i j h1 hjn (fun q => hij q.symm) hni d (by unfold rdst; rw [ho]; exact hd)
          unfold Left17 at hf ⊢
          cases hv : val j with
          | some u =>
            rw [hv] at hf
            intro d' hd'
            have hne : d' ≠ d := fun q => a1 (by rw [hd', q])
            show (if d' = d then v else y d') = u
            rw [if_neg hne]; exact hf d' hd'
          | none =>
            rw [hv] at hf
            refine hloc j hjn hv y _ w' (fun k hk => ?_) (hmono j hjn hv ⟨i, h1, fun q => hij q.symm, hni⟩ y w w' hG hf)
            have hne : k ≠ d := fun q => a2 hv (by rw [← q]; exact hk)
            show y k = if k = d then v else y k
            rw [if_neg hne]
    · intro j hj d hd
      have key : ∀ k, listed.getD k false = true → (listed.setIfInBounds i true).getD k false = true := fun k hk => by
        rw [Array.getD_eq_getD_getElem?] at hk ⊢
        rw [Array.getElem?_setIfInBounds]
        split
        · split
          · rfl
          · rename_i q1 q2; subst q1; rw [Array.getElem?_eq_none (by omega)] at hk; cases hk
        · exact hk
      by_cases hij : j = i
      · subst hij; exact key d (h3 d hd)
      · have hj' : listed.getD j false = true := by
          rw [Array.getD_eq_getD_getElem?, Array.getElem?_setIfInBounds, if_neg (fun q => hij q.symm)] at hj
          rw [Array.getD_eq_getD_getElem?]; exact hj
        exact key d (hcl j hj' d hd)
  · rintro listed a w ⟨hsz, y, rfl, hSw, hl, _⟩ hr
    refine hdone y w ?_ fun j hj => (hl j (all_listed hsz hlt hr j hj)).2
    have e : (fun j => listed.getD j false) = fun j => decide (j < ops.size) := by
      funext j
      by_cases hq : j < ops.size
      · rw [all_listed hsz hlt hr j hq, decide_eq_true hq]
      · rw [Array.getD_eq_getD_getElem?, Array.getElem?_eq_none (by omega), decide_eq_false hq]
        rfl
    rw [e] at hSw
    exact hSw
  · unfold unl
    rw [Array.toList_replicate]
    simp
  · refine ⟨Array.size_replicate, y0, ha, ?_, fun j hj => ?_, fun j hj => ?_⟩
    · have e : (fun j => (Array.replicate ops.size false).getD j false) = fun _ => false := by
        funext j
        rw [Array.getD_eq_getD_getElem?, Array.getElem?_replicate]
        split <;> rfl
      rw [e]
      exact hS
    all_goals
      rw [Array.getD_eq_getD_getElem?, Array.getElem?_replicate] at hj
      split at hj <;> cases hj
/-- a step of the law: operation i alone -/
def StepOkE (P : Program) (ops : Array Oper) (Q : Exit → Act → World → Prop) (fr : (Nat → Value) → Act) (sh : List (Option Nat × List Nat)) (sp : Nat → Bool) (vals : List Value) (X : Nat → (Nat → Value) → World → Prop) (G : World → World → Prop) (S : (Nat → Bool) → World → Prop) (i : Nat) (o : Oper) : Prop :=
  ∀ y w ex, (ex i = false ∧ (∀ d, (sdeps sh i).contains d = true → ex d = true) ∧ ∀ j, ex j = true → ∀ d, (sdeps sh j).contains d = true → ex d = true) → S ex w → (∀ d, (sdeps sh i).contains d = true → LeftS sh (valOf sp vals) X d y w) →
    ∀ K' : Act → World → Prop, Shut (∀ v a' w', a' = (fr y).put o.dst v → G w w' → S (fun j => if j = i then true else ex j) w' → (valOf sp vals i = some v ∨ (valOf sp vals i = none ∧ X i (upd y o.dst v) w')) → K' a' w') →
      if Region.wanted o (yielded ops (fr y).tmps) = true then Oper.wp P o (fr y) w K' Q else K' ((fr y).put o.dst undef) w
def StepsOkE (P : Program) (ops : Array Oper) (Q : Exit → Act → World → Prop) (fr : (Nat → Value) → Act) (sh : List (Option Nat × List Nat)) (sp : Nat → Bool) (vals : List Value) (X : Nat → (Nat → Value) → World → Prop) (G : World → World → Prop) (S : (Nat → Bool) → World → Prop) (i : Nat) (l : List Oper) : Prop :=
  ∀ k o, l[k]? = some o → StepOkE P ops Q fr sh sp vals X G S (i + k) o
section
variable {fr : (Nat → Value) → Act} {sh : List (Option Nat × List Nat)} {sp : Nat → Bool} {vals : List Value} {X : Nat → (Nat → Value) → World → Prop} {G : World → World → Prop} {S : (Nat → Bool) → World → Prop}
theorem StepsOkE.nil {i : Nat} : StepsOkE P ops Q fr sh sp vals X G S i [] := fun k o h => by simp at h
theorem StepsOkE.cons {i : Nat} {o : Oper} {l : List Oper} (h : StepOkE P ops Q fr sh sp vals X G S i o) (hl : StepsOkE P ops Q fr sh sp vals X G S (i + 1) l) : StepsOkE P ops Q fr sh sp vals X G S i (o :: l) := fun k o' ho => by
  cases k with
  | zero => rw [List.getElem?_cons_zero] at ho; injection ho with ho; subst ho; exact h
  | succ k =>
    rw [List.getElem?_cons_succ] at ho
    have := hl k o' ho
    rwa [show i + 1 + k = i + (k + 1) by omega] at this
/-- a step whose value is known ahead -/
theorem StepOkE.known {i : Nat} {o : Oper} (hi : sp i = false) (h : ∀ y w ex, (ex i = false ∧ (∀ d, (sdeps sh i).contains d = true → ex d = true) ∧ ∀ j, ex j = true → ∀ d, (sdeps sh j).contains d = true → ex d = true) → S ex w → (∀ d, (sdeps sh i).contains d = true → LeftS sh (valOf sp vals) X d y w) →
    ∀ K' : Act → World → Prop, Shut (∀ a' w', a' = (fr y).put o.dst (vals.getD i undef) → G w w' → S (fun j => if j = i then true else ex j) w' → K' a' w') →
      if Region.wanted o (yielded ops (fr y).tmps) = true then Oper.wp P o (fr y) w K' Q else K' ((fr y).put o.dst undef) w) : StepOkE P ops Q fr sh sp vals X G S i o :=
  fun y w b hb hS hd K' hK => h y w b hb hS hd K' fun a' w' ha hG hS' => hK _ a' w' ha hG hS' (.inl (by unfold valOf; rw [if_neg (by rw [hi]; decide)]))
/-- a step whose value is not known ahead -/
theorem StepOkE.other {i : Nat} {o : Oper} (hi : sp i = true) (h : ∀ y w ex, (ex i = false ∧ (∀ d, (sdeps sh i).contains d = true → ex d = true) ∧ ∀ j, ex j = true → ∀ d, (sdeps sh j).contains d = true → ex d = true) → S ex w → (∀ d, (sdeps sh i).contains d = true → LeftS sh (valOf sp vals) X d y w) →
    ∀ K' : Act → World → Prop, Shut (∀ v a' w', a' = (fr y).put o.dst v → G w w' → S (fun j => if j = i then true else ex j) w' → X i (upd y o.dst v) w' → K' a' w') →
      if Region.wanted o (yielded ops (fr y).tmps) = true then Oper.wp P o (fr y) w K' Q else K' ((fr y).put o.dst undef) w) : StepOkE P ops Q fr sh sp vals X G S i o :=
  fun y w b hb hS hd K' hK => h y w b hb hS hd K' fun v a' w' ha hG hS' hx => hK v a' w' ha hG hS' (.inr ⟨by unfold valOf; rw [if_pos hi], hx⟩)
end
/-- THE LAW with one operation that parts the region, by the shape -/
theorem wp_region_shapeE {id : Nat} {l : List Oper} {Q : Exit → Act → World → Prop} {a : Act} {w : World} (sh : List (Option Nat × List Nat)) (fr : (Nat → Value) → Act) (y0 : Nat → Value) (sp : Nat → Bool) (vals : List Value) (X : Nat → (Nat → Value) → World → Prop) (Kx : Nat → List Nat) (G : World → World → Prop) (S : (Nat → Bool) → World → Prop)
    (hm : P.follows .mixedOrders = true) (hsh : shapeOf l = sh) (hok : shapeOk sh sp Kx = true) (ha : a = fr y0) (hS : S (fun _ => false) w.drew)
    (hput : ∀ d ∈ sh.filterMap (·.1), ∀ y v, (fr y).put (some d) v = fr (upd y (some d) v))
    (hloc : ∀ j, sp j = true → ∀ y y' w, (∀ k ∈ Kx j, y k = y' k) → X j y w → X j y' w)
    (hmono : ∀ j, sp j = true → lastB sh j = false → ∀ y w w', G w w' → X j y w → X j y w')
    (hstep : StepsOkE P l.toArray Q fr sh sp vals X G S 0 l)
    (hdone : ∀ y w, S (fun j => decide (j < sh.length)) w → (∀ j, j < sh.length → LeftS sh (valOf sp vals) X j y w) → Q .normal (fr y) w) : (Code.region id l.toArray true).wp P Q a w := by
  have hlen : l.length = sh.length := by rw [← hsh]; unfold shapeOf; rw [List.length_map]
  have hsz : l.toArray.size = sh.length := by rw [List.size_toArray, hlen]
  have hsp : ∀ j, valOf sp vals j = none → sp j = true := fun j h => by
    unfold valOf at h; split at h
    · assumption
    · cases h
  have hok' := hok
  unfold shapeOk at hok'
  rw [List.all_eq_true] at hok'
  refine wp_region_invE fr y0 (valOf sp vals) X Kx G S hm ha hS ?_ ?_ ?_ ?_ ?_ ?_ ?_
  · intro i hi d hd
    rw [hsz] at hi
    rw [rdeps_shape hsh] at hd
    have := hok' i (List.mem_range.2 hi)
    rw [Bool.and_eq_true, List.all_eq_true] at this
    exact of_decide_eq_true (this.1 d hd)
  · intro i d hi hd y v
    rw [rdst_shape hsh] at hd
    refine hput d (List.mem_filterMap.2 ⟨sh.getD i (none, []), ?_, hd⟩) y v
    rw [hsz] at hi
    rw [List.getD_eq_getElem?_getD, List.getElem?_eq_getElem hi]
    exact List.getElem_mem _
  · intro j _ hv; exact hloc j (hsp j hv)
  · intro j _ hv ⟨i, hi, hij, hni⟩
    refine hmono j (hsp j hv) ?_
    unfold lastB
    rw [List.all_eq_false]
    refine ⟨i, List.mem_range.2 (by rw [← hsz]; exact hi), ?_⟩
    rw [rdeps_shape hsh] at hni
    simp [hij, hni]
  · intro i j hi hj hij hni d hd
    rw [hsz] at hi hj
    rw [rdeps_shape hsh] at hni
    rw [rdst_shape hsh] at hd ⊢
    have := hok' i (List.mem_range.2 hi)
    rw [Bool.and_eq_true, List.all_eq_true, List.all_eq_true] at this
    have qq := this.2 j (List.mem_range.2 hj)
    rw [hd] at qq
    simp only [Bool.or_eq_true, beq_iff_eq, Bool.and_eq_true, bne_iff_ne, Bool.not_eq_true', List.contains_iff_mem] at qq
    rcases qq with (qq | qq) | ⟨q1, q2⟩
    · exact absurd qq hij
    · exact absurd qq hni
    · refine ⟨q1, fun hv hk => ?_⟩
      rcases q2 with q2 | q2
      · rw [hsp j hv] at q2; cases q2
      · rw [List.contains_iff_mem.2 hk] at q2; cases q2
  · intro i hi o ho y w ex hb hSw hd K' hK
    have hs := hstep i o (by rw [List.getElem?_toArray] at ho; exact ho)
    rw [Nat.zero_add] at hs
    exact hs y w ex ⟨hb.1, fun d hd => hb.2.1 d (by rw [rdeps_shape hsh]; exact List.contains_iff_mem.1 hd), fun j hj d hd => hb.2.2 j hj d (by rw [rdeps_shape hsh]; exact List.contains_iff_mem.1 hd)⟩ hSw (fun d hd' => LeftS.of hsh (hd d (by rw [rdeps_shape hsh]; exact List.contains_iff_mem.1 hd'))) K' hK
  · intro y w hSw h
    exact hdone y w (by rw [← hsz]; exact hSw) fun j hj => LeftS.of hsh (h j (by rw [hsz]; exact hj))

end
end Go.Proofs.YtlideagcmhlkeaaDoor

/- Turned sources: twice is as before, two sets in either order. No function of the program. -/
namespace Go.Proofs.YtlideagcmhlkeaaDoor
open Go.RowKit
set_option linter.unusedVariables false

theorem sSame14.map' {a b : SV} (h : sSame14 a b) (G : EV → EV) : sSame14 (mapS G a) (mapS G b) := ⟨h.rules, h.links, h.shifts, by show (a.zones.map _).length = (b.zones.map _).length; rw [List.length_map, List.length_map]; exact h.zones.1, fun i z y hi hz hy => by
  have hz' : (a.zones.map (mapE G))[i]? = some z := hz
  have hy' : (b.zones.map (mapE G))[i]? = some y := hy
  rw [List.getElem?_map] at hz' hy'
  cases q1 : a.zones[i]? with
  | none => rw [q1] at hz'; cases hz'
  | some z0 =>
    cases q2 : b.zones[i]? with
    | none => rw [q2] at hy'; cases hy'
    | some y0 =>
      rw [q1] at hz'; rw [q2] at hy'
      injection hz' with hz'; injection hy' with hy'
      have q := h.zones.2 i z0 y0 (List.getElem?_eq_some_iff.1 q1).1 q1 q2
      subst hz' hy'
      exact ⟨q.1, by show z0.eras.map G = y0.eras.map G; rw [q.2]⟩⟩
end Go.Proofs.YtlideagcmhlkeaaDoor

/- The reference's Eras of chapter 29. -/
namespace Go.Proofs.YtlideagcmhlkeaaDoor
open Go.RowKit Go.Lib
set_option linter.unusedVariables false
set_option linter.unusedSimpArgs false

/-- where the walk stands: the boxes, the copy whose zones are Y, what is changed so far -/
structure Rt (w W : World) (c : SV) (G : EV → EV) (G0 base : Nat) (Y : List ZV) (i k : Nat) : Prop where
  res : Blk W (w.heap.size + 1) 32 #[.slice none 0 0, .slice none 0 0, .slice none 0 0, .slice none 0 0]
  box : Blk W G0 32 #[.slice c.rA c.rules.length c.rc, .slice c.zA c.zones.length c.zc, .slice c.kA c.links.length c.kc, .slice c.hA c.shifts.length c.hc]
  cp : CopyOf W base { c with zones := Y } { c with zones := Y }
  par : part30 G c.zones Y i k
  bel : Below w.heap.size w W
  le : w.heap.size + 2 ≤ base ∧ w.heap.size + 2 ≤ G0
section
variable {w W W' : World} {c : SV} {G : EV → EV} {G0 base : Nat} {Y : List ZV} {i k : Nat}
theorem Rt.below (h : Rt w W c G G0 base Y i k) (hb : Below W.heap.size W W') : Rt w W' c G G0 base Y i k :=
  ⟨h.res.below hb h.res.lt, h.box.below hb h.box.lt, h.cp.below hb, h.par, h.bel.trans (hb.mono h.bel.size), h.le⟩
theorem Rt.skip {z : ZV} {e : EV} (h : Rt w W c G G0 base Y i k) (hz : c.zones[i]? = some z) (he : z.eras[k]? = some e) (h0 : G e = e) : Rt w W c G G0 base Y i (k + 1) :=
  ⟨h.res, h.box, h.cp, h.par.skip hz he h0, h.bel, h.le⟩
theorem Rt.zone {z : ZV} (h : Rt w W c G G0 base Y i k) (hz : c.zones[i]? = some z) (hk : z.eras.length ≤ k) : Rt w W c G G0 base Y (i + 1) 0 :=
  ⟨h.res, h.box, h.cp, h.par.zone hz hk, h.bel, h.le⟩
/-- the zone at a place of the copy: where it lies -/
theorem Rt.zat {z : ZV} (h : Rt w W c G G0 base Y i k) (hz : c.zones[i]? = some z) : ∃ (y : ZV) (zg : Nat), Y[i]? = some y ∧ c.zA = some ⟨zg, 0, none⟩ ∧ W.cell? ⟨zg, i * 2 + 1, none⟩ = some (.slice y.A z.eras.length y.c) := by
  have hl := (List.getElem?_eq_some_iff.1 hz).1
  obtain ⟨y, hy⟩ : ∃ y, Y[i]? = some y := ⟨_, List.getElem?_eq_getElem (by rw [h.par.1]; exact hl)⟩
  obtain ⟨zg, hzA, _, _⟩ := h.cp.zones.1.addr (by show 0 < Y.length; rw [h.par.1]; omega)
  have hzr : RowOf W base 39 2 ZV.cells c.zA c.zc Y := h.cp.zones.1
  rw [show c.zA = some ⟨zg, 0, none⟩ from hzA] at hzr
  have q1 := hzr.cellAt len_zone hy 1 _ rfl
  rw [(h.par.2 i z y hz hy).2.1] at q1
  exact ⟨y, zg, hy, hzA, q1⟩
/-- the era at a place of the copy: where it lies -/
theorem Rt.at_ {z y : ZV} {e : EV} (h : Rt w W c G G0 base Y i k) (hz : c.zones[i]? = some z) (he : z.eras[k]? = some e) (hy : Y[i]? = some y) :
    ∃ yg : Nat, y.A = some ⟨yg, 0, none⟩ ∧ y.eras[k]? = some e ∧ RowOf W base 47 13 EV.cells (some ⟨yg, 0, none⟩) y.c y.eras := by
  obtain ⟨y', hy', hye⟩ := h.par.at_ hz he
  rw [hy] at hy'
  injection hy' with hy'
  subst hy'
  have hkl := (List.getElem?_eq_some_iff.1 hye).1
  obtain ⟨yg, hyA, _, _⟩ := h.cp.eraAddr (show ({ c with zones := Y } : SV).zones[i]? = some y from hy) (by omega)
  have her := h.cp.zones.2.eras i y hy
  rw [hyA] at her
  exact ⟨yg, hyA, hye, her⟩
theorem Rt.set_ {set : ByteArray} {z y : ZV} {e : EV} {yg : Nat} (h : Rt w W c (turnE set) G0 base Y i k) (hz : c.zones[i]? = some z) (he : z.eras[k]? = some e) (hy : Y[i]? = some y) (hA : y.A = some ⟨yg, 0, none⟩) (hk : e.kind = 2) (hs : e.set = set) :
    Rt w (W.setCell ⟨yg, k * 13 + 4, none⟩ (.string (turnB e.fmt))) c (turnE set) G0 base (Y.set i { y with eras := y.eras.set k (turnE set e) }) i (k + 1) := by
  have her := h.cp.zones.2.eras i y hy
  rw [hA] at her
  have hO : (Value.slice (some ⟨yg, 0, none⟩) y.eras.length y.c).ownBlock = some yg := rfl
  obtain ⟨y', hy', hye⟩ := h.par.at_ hz he
  rw [hy] at hy'
  injection hy' with hy'
  subst hy'
  have hge := (World.ownsRow.lt her yg rfl).1
  have hl := h.le
  refine ⟨blk_set_other h.res her hO (by decide) _, blk_set_other h.box her hO (by decide) _, ?_, h.par.step hz hy he, h.bel.setCell (by show w.heap.size ≤ yg; omega) _, h.le⟩
  exact h.cp.setCell (t := { c with zones := Y }) hy hA hye (.string (turnB e.fmt)) (by decide) (by rw [turnE_yes hk hs]; rfl)
theorem Rt.done (h : Rt w W c G G0 base Y i 0) (hi : c.zones.length ≤ i) : sSame14 { c with zones := Y } (mapS G c) := ⟨rfl, rfl, rfl, h.par.all hi⟩
end
/-- what is kept in the region that turns an era -/
theorem Rt.start {w W0 W : World} {c : SV} {G : EV → EV} {base G0 : Nat} {s : SV} (hC : CopyOf W0 base s c) (hb : Below W0.heap.size W0 W) (hres : Blk W (w.heap.size + 1) 32 #[.slice none 0 0, .slice none 0 0, .slice none 0 0, .slice none 0 0]) (hbox : Blk W G0 32 #[.slice c.rA c.rules.length c.rc, .slice c.zA c.zones.length c.zc, .slice c.kA c.links.length c.kc, .slice c.hA c.shifts.length c.hc]) (hbel : Below w.heap.size w W) (hle : w.heap.size + 2 ≤ base ∧ w.heap.size + 2 ≤ G0) : Rt w W c G G0 base c.zones 0 0 :=
  ⟨hres, hbox, (hC.self).below hb, part30.start ⟨rfl, fun i z y _ hz hy => by rw [hz] at hy; injection hy with hy; subst hy; exact ⟨rfl, rfl⟩⟩, hbel, hle⟩
set_option maxRecDepth 100000 in
set_option maxHeartbeats 16000000 in
theorem rteras_any (s : SV) (set : ByteArray) (w : World) (hS : SrcIn w s) (hf : Few30 s) :
    Calls Tryd.prog 35 #[.agg #[.slice s.rA s.rules.length s.rc, .slice s.zA s.zones.length s.zc, .slice s.kA s.links.length s.kc, .slice s.hA s.shifts.length s.hc], .string set] w fun x w' => ∃ t : SV, x = .returned (.agg #[.slice t.rA t.rules.length t.rc, .slice t.zA t.zones.length t.zc, .slice t.kA t.links.length t.kc, .slice t.hA t.shifts.length t.hc]) ∧ SrcG w' t ∧ sSame14 t (mapS (turnE set) s) ∧ Below w.heap.size w w' := by
  have HS := Lib.hid hS; have HFW := Lib.hid hf
  have hb0 := ((Below.refl w.heap.size w).alloc (Nat.le_refl _) (.cells #[.slice s.rA s.rules.length s.rc, .slice s.zA s.zones.length s.zc, .slice s.kA s.links.length s.kc, .slice s.hA s.shifts.length s.hc] 32)).alloc (by simp) (.cells #[.slice none 0 0, .slice none 0 0, .slice none 0 0, .slice none 0 0] 32)
  have hx0 := (Blk.new w 32 #[.slice s.rA s.rules.length s.rc, .slice s.zA s.zones.length s.zc, .slice s.kA s.links.length s.kc, .slice s.hA s.shifts.length s.hc]).alloc (.cells #[.slice none 0 0, .slice none 0 0, .slice none 0 0, .slice none 0 0] 32)
  have hr0 := Blk.newAt (w.alloc (.cells #[.slice s.rA s.rules.length s.rc, .slice s.zA s.zones.length s.zc, .slice s.kA s.links.length s.kc, .slice s.hA s.shifts.length s.hc] 32)) (w.heap.size + 1) (by simp) 32 #[.slice none 0 0, .slice none 0 0, .slice none 0 0, .slice none 0 0]
  have HR0 := Lib.hid hr0; have HB0 := Lib.hid hb0
  have cC := Lib.hid (copy14 s _ (hS.below hb0) hf)
  have c0 := (hx0.cell 0).trans rfl; have c1 := (hx0.cell 1).trans rfl; have c2 := (hx0.cell 2).trans rfl; have c3 := (hx0.cell 3).trans rfl
  clear hS hf hb0 hx0 hr0
  go_enter Tryd.func35, Tryd.ntmps35
  go_wp2_with fail
  refine cC.out.mono ?_
  rintro x W2 ⟨c, rfl, hC, hc⟩
  have hal := (Below.refl W2.heap.size W2).alloc (Nat.le_refl _) (.cells #[.slice c.rA c.rules.length c.rc, .slice c.zA c.zones.length c.zc, .slice c.kA c.links.length c.kc, .slice c.hA c.shifts.length c.hc] 32)
  have hcs := hc.size
  have HCF := Lib.hid (few_same HFW.out hC.same)
  have HRX := Lib.hid (show Rt w (W2.alloc (.cells #[.slice c.rA c.rules.length c.rc, .slice c.zA c.zones.length c.zc, .slice c.kA c.links.length c.kc, .slice c.hA c.shifts.length c.hc] 32)) c (turnE set) W2.heap.size (w.heap.size + 4) c.zones 0 0 from
    Rt.start (by simpa using hC) hal ((HR0.out.below hc HR0.out.lt).below hal (HR0.out.below hc HR0.out.lt).lt) (Blk.new W2 32 #[.slice c.rA c.rules.length c.rc, .slice c.zA c.zones.length c.zc, .slice c.kA c.links.length c.kc, .slice c.hA c.shifts.length c.hc]) ((HB0.out.trans (hc.mono HB0.out.size)).trans (hal.mono (HB0.out.trans (hc.mono HB0.out.size)).size)) ⟨by omega, by have := hcs; simp at this; omega⟩)
  have HCS := Lib.hid hC.same
  have hl2 : (c.zones.length : Int) ≤ 1000 := by have := HCF.out.lens.2.1; omega
  clear hC hc hal hcs cC HR0 HB0 c0 c1 c2 c3
  go_wp2_with fail
  generalize W2.heap.size = G0 at HRX ⊢
  go_loopw [6] (fun i W => ∃ a : Nat, a ≤ c.zones.length ∧ i = .int .i64 a ∧ ∃ Y, Rt w W c (turnE set) G0 (w.heap.size + 4) Y a 0) (fun i _ => c.zones.length - (intOf i).toNat)
  case atStart => exact ⟨0, Nat.zero_le _, rfl, c.zones, HRX.out⟩
  case round =>
    clear HRX
    obtain ⟨wo, hwo⟩ : ∃ x, x = wr := ⟨_, rfl⟩
    subst hwo
    obtain ⟨a, ha, rfl, Y, hrx⟩ := hrel
    have HRX := Lib.hid hrx
    have p1 := (hrx.box.cell 1).trans rfl
    by_cases hlt : a < c.zones.length
    · have hki : (a : Int) < (c.zones.length : Int) := by omega
      have hk0 : (0 : Int) ≤ (a : Int) := by omega
      obtain ⟨z, hz⟩ : ∃ z, c.zones[a]? = some z := ⟨_, List.getElem?_eq_getElem hlt⟩
      have HKZ := Lib.hid hz; have HLT := Lib.hid hlt
      have hle : z.eras.length ≤ 1000 := HCF.out.eras z (List.mem_of_getElem? hz)
      have hle2 : (z.eras.length : Int) ≤ 1000 := by omega
      clear hrx hz hlt
      go_wp2_with fail
      clear p1
      go_loopw [7] (fun i W => ∃ k : Nat, k ≤ z.eras.length ∧ i = .int .i64 k ∧ ∃ Y, Rt w W c (turnE set) G0 (w.heap.size + 4) Y a k) (fun i _ => z.eras.length - (intOf i).toNat)
      case atStart => exact ⟨0, Nat.zero_le _, rfl, Y, HRX.out⟩
      case round =>
        clear HRX
        obtain ⟨k, hk, rfl, Y, hrx⟩ := hrel
        obtain ⟨yv, zg, hy, hcA, n1⟩ := hrx.zat HKZ.out
        have p1 := (hrx.box.cell 1).trans rfl
        rw [hcA] at p1
        by_cases hlk : k < z.eras.length
        · have hkk : (k : Int) < (z.eras.length : Int) := by omega
          have hk1 : (0 : Int) ≤ (k : Int) := by omega
          obtain ⟨e, he⟩ : ∃ e, z.eras[k]? = some e := ⟨_, List.getElem?_eq_getElem hlk⟩
          obtain ⟨yg, hyA, hye, her⟩ := hrx.at_ HKZ.out he hy
          rw [hyA] at n1
          have y0 : wr.cell? ⟨yg, k * 13, none⟩ = some (.int .i64 e.off) := her.cellAt len_era hye 0 _ rfl
          have y1 := her.cellAt len_era hye 1 _ rfl; have y2 := her.cellAt len_era hye 2 _ rfl; have y3 := her.cellAt len_era hye 3 _ rfl; have y4 := her.cellAt len_era hye 4 _ rfl; have y5 := her.cellAt len_era hye 5 _ rfl; have y6 := her.cellAt len_era hye 6 _ rfl; have y7 := her.cellAt len_era hye 7 _ rfl; have y8 := her.cellAt len_era hye 8 _ rfl; have y9 := her.cellAt len_era hye 9 _ rfl; have y10 := her.cellAt len_era hye 10 _ rfl; have y11 := her.cellAt len_era hye 11 _ rfl; have y12 := her.cellAt len_era hye 12 _ rfl
          have hal := (Below.refl wr.heap.size wr).alloc (Nat.le_refl _) (.cells #[.int .i64 e.off, .int .i64 e.kind, .int .i64 e.save, .string e.set, .string e.fmt, .bool e.ui, .int .i64 e.uy, .int .i64 e.um, .int .i64 e.dk, .int .i64 e.dw, .int .i64 e.dd, .int .i64 e.asec, .int .i64 e.ab] 47)
          have HRX := Lib.hid (hrx.below hal)
          have HEB := Lib.hid (Blk.new wr 47 #[.int .i64 e.off, .int .i64 e.kind, .int .i64 e.save, .string e.set, .string e.fmt, .bool e.ui, .int .i64 e.uy, .int .i64 e.um, .int .i64 e.dk, .int .i64 e.dw, .int .i64 e.dd, .int .i64 e.asec, .int .i64 e.ab])
          have HE := Lib.hid he; have HLK := Lib.hid hlk; have HY := Lib.hid hy; have HYA := Lib.hid hyA; have HCA := Lib.hid hcA
          have HSZ := Lib.hid (show e.fmt.size ≤ 1100000 from (HCF.out.nums z (List.mem_of_getElem? HKZ.out) e (List.mem_of_getElem? he)).2.2)
          have d1 := (HEB.out.cell 1).trans rfl; have d3 := (HEB.out.cell 3).trans rfl; have d4 := (HEB.out.cell 4).trans rfl
          clear hrx he hlk hy hyA hye her hal hcA
          by_cases hkd : e.kind = 2
          · have hk2 : (e.kind == 2) = true := by rw [hkd]; rfl
            by_cases hst : e.set = set
            · have hs2 : (e.set.toList == set.toList) = true := by rw [hst]; simp
              have HKS := Lib.hid (And.intro hkd hst)
              clear hkd hst
              go_upto_region 10 with fail
              generalize (wr.alloc (.cells #[.int .i64 e.off, .int .i64 e.kind, .int .i64 e.save, .string e.set, .string e.fmt, .bool e.ui, .int .i64 e.uy, .int .i64 e.um, .int .i64 e.dk, .int .i64 e.dw, .int .i64 e.dd, .int .i64 e.asec, .int .i64 e.ab] 47)) = V at HRX HEB ⊢
              generalize wr.heap.size = g8 at HEB ⊢
              obtain ⟨b, hb⟩ : ∃ b, turnB e.fmt = b := ⟨_, rfl⟩
              have HTB := Lib.hid hb
              clear hb d1 d3 d4 y0 y1 y2 y3 y4 y5 y6 y7 y8 y9 y10 y11 y12
              refine wp_region_shapeE [(some 47, []), (some 48, [0]), (some 49, []), (some 50, [1, 2]), (some 51, [3]), (some 52, [4]), (some 53, []), (some 54, []), (some 55, [7]), (some 56, [8]), (some 57, [5, 6, 0, 1, 2, 3, 4, 5, 6, 7, 8, 9]), (some 58, [10, 0, 1, 2, 3, 4, 5, 6, 7, 8, 9]), (none, [11, 9, 9, 0, 1, 2, 3, 4, 5, 6, 7, 8, 9])] (fun y => { tmps := #[.agg #[.slice s.rA s.rules.length s.rc, .slice s.zA s.zones.length s.zc, .slice s.kA s.links.length s.kc, .slice s.hA s.shifts.length s.hc], .string set, .pointer (some ⟨w.heap.size, 0, none⟩), undef, .pointer (some ⟨w.heap.size + 1, 0, none⟩), .pointer (some ⟨G0, 0, none⟩), .int .i64 a, .int .i64 k, .pointer (some ⟨g8, 0, none⟩), .agg #[.slice s.rA s.rules.length s.rc, .slice s.zA s.zones.length s.zc, .slice s.kA s.links.length s.kc, .slice s.hA s.shifts.length s.hc], .agg #[.slice c.rA c.rules.length c.rc, .slice c.zA c.zones.length c.zc, .slice c.kA c.links.length c.kc, .slice c.hA c.shifts.length c.hc], .int .i64 a, .pointer (some ⟨G0, 1, none⟩), .slice c.zA c.zones.length c.zc, .int .i64 c.zones.length, .bool true, u16, u17, .int .i64 k, .pointer (some ⟨G0, 1, none⟩), .slice (some ⟨zg, 0, none⟩) c.zones.length c.zc, .int .i64 a, .pointer (some ⟨zg, a * 2, none⟩), .pointer (some ⟨zg, a * 2 + 1, none⟩), .slice (some ⟨yg, 0, none⟩) z.eras.length yv.c, .int .i64 z.eras.length, .bool true, u27, u28, .pointer (some ⟨G0, 1, none⟩), .slice (some ⟨zg, 0, none⟩) c.zones.length c.zc, .int .i64 a, .pointer (some ⟨zg, a * 2, none⟩), .pointer (some ⟨zg, a * 2 + 1, none⟩), .slice (some ⟨yg, 0, none⟩) z.eras.length yv.c, .int .i64 k, .pointer (some ⟨yg, k * 13, none⟩), .agg #[.int .i64 e.off, .int .i64 e.kind, .int .i64 e.save, .string e.set, .string e.fmt, .bool e.ui, .int .i64 e.uy, .int .i64 e.um, .int .i64 e.dk, .int .i64 e.dw, .int .i64 e.dd, .int .i64 e.asec, .int .i64 e.ab], .pointer (some ⟨g8, 1, none⟩), .int .i64 e.kind, .bool true, .bool true, .pointer (some ⟨g8, 3, none⟩), .string e.set, .string set, .bool true, .bool true, y 47, y 48, y 49, y 50, y 51, y 52, y 53, y 54, y 55, y 56, y 57, y 58, undef], defers := [] }) (fun k => match k with | 47 => u47 | 48 => u48 | 49 => u49 | 50 => u50 | 51 => u51 | 52 => u52 | 53 => u53 | 54 => u54 | 55 => u55 | 56 => u56 | 57 => u57 | 58 => u58 | _ => undef) (fun j => false) [Value.pointer (some ⟨G0, 1, none⟩), .slice (some ⟨zg, 0, none⟩) c.zones.length c.zc, .int .i64 a, Value.pointer (some ⟨zg, a * 2, none⟩), Value.pointer (some ⟨zg, a * 2 + 1, none⟩), .slice (some ⟨yg, 0, none⟩) z.eras.length yv.c, .int .i64 k, Value.pointer (some ⟨g8, 4, none⟩), .string e.fmt, .string b, Value.pointer (some ⟨yg, k * 13, none⟩), Value.pointer (some ⟨yg, k * 13 + 4, none⟩), undef] (fun j y W => match j with  | _ => True) (fun j => match j with  | _ => []) (fun _ _ => True) (fun ex W => (ex 12 = false → Rt w W c (turnE set) G0 (w.heap.size + 4) Y a k ∧ Blk W g8 47 #[.int .i64 e.off, .int .i64 e.kind, .int .i64 e.save, .string e.set, .string e.fmt, .bool e.ui, .int .i64 e.uy, .int .i64 e.um, .int .i64 e.dk, .int .i64 e.dw, .int .i64 e.dd, .int .i64 e.asec, .int .i64 e.ab]) ∧ (ex 12 = true → Rt w W c (turnE set) G0 (w.heap.size + 4) (Y.set a { yv with eras := yv.eras.set k (turnE set e) }) a (k + 1))) (by kernel_rfl) (by kernel_rfl) (by decide +kernel) rfl ⟨fun _ => ⟨HRX.out.below (Below.refl _ _).drew, HEB.out⟩, fun q => by cases q⟩ ?hput1 ?hloc1 ?hmono1 ?hstep1 ?hdone1
              case hput1 =>
                intro d hd y v
                simp only [List.filterMap_cons, List.filterMap_nil, List.mem_cons, List.not_mem_nil, or_false] at hd
                rcases hd with rfl | rfl | rfl | rfl | rfl | rfl | rfl | rfl | rfl | rfl | rfl | rfl
                all_goals rfl
              case hloc1 =>
                intro j hj; cases hj
              case hmono1 =>
                intro j hj; cases hj
              case hdone1 =>
                intro y1 w1 hS hd
                have HRN := Lib.hid (hS.2 (by decide))
                clear hd hS
                go_wp2_with fail
                go_roundw
                case rel => exact ⟨k + 1, by have := HLK.out; omega, by go_num, _, HRN.out⟩
                case measure => have := HLK.out; simp [intOf]; omega
              case hstep1 =>
                refine StepsOkE.cons (StepOkE.known rfl fun y W ex hex hS hd K' hK => ?_) ?_
                · skip
                  clear hd
                  go_simp
                  exact hK.out _ _ rfl trivial hS
                refine StepsOkE.cons (StepOkE.known rfl fun y W ex hex hS hd K' hK => ?_) ?_
                · skip
                  have e47 : y 47 = Value.pointer (some ⟨G0, 1, none⟩) := (hd 0 rfl).val rfl rfl
                  clear hd
                  have h12 : ex 12 = false := by
                    cases h : ex 12 with
                    | false => rfl
                    | true => exact absurd (hex.2.2 12 h 1 (by decide)) (by rw [hex.1]; decide)
                  have q1 := ((hS.1 h12).1.box.cell 1).trans rfl
                  rw [HCA.out] at q1
                  go_simp
                  exact hK.out _ _ (by first | rfl | (simp only [e47]; done) | (simp only [e47]; rfl)) trivial hS
                refine StepsOkE.cons (StepOkE.known rfl fun y W ex hex hS hd K' hK => ?_) ?_
                · skip
                  clear hd
                  go_simp
                  exact hK.out _ _ rfl trivial hS
                refine StepsOkE.cons (StepOkE.known rfl fun y W ex hex hS hd K' hK => ?_) ?_
                · skip
                  have e48 : y 48 = .slice (some ⟨zg, 0, none⟩) c.zones.length c.zc := (hd 1 rfl).val rfl rfl
                  have e49 : y 49 = .int .i64 a := (hd 2 rfl).val rfl rfl
                  clear hd
                  go_simp
                  exact hK.out _ _ (by first | rfl | (simp only [e48, e49]; done) | (simp only [e48, e49]; rfl)) trivial hS
                refine StepsOkE.cons (StepOkE.known rfl fun y W ex hex hS hd K' hK => ?_) ?_
                · skip
                  have e50 : y 50 = Value.pointer (some ⟨zg, a * 2, none⟩) := (hd 3 rfl).val rfl rfl
                  clear hd
                  go_simp
                  exact hK.out _ _ (by first | rfl | (simp only [e50]; done) | (simp only [e50]; rfl)) trivial hS
                refine StepsOkE.cons (StepOkE.known rfl fun y W ex hex hS hd K' hK => ?_) ?_
                · skip
                  have e51 : y 51 = Value.pointer (some ⟨zg, a * 2 + 1, none⟩) := (hd 4 rfl).val rfl rfl
                  clear hd
                  have h12 : ex 12 = false := by
                    cases h : ex 12 with
                    | false => rfl
                    | true => exact absurd (hex.2.2 12 h 5 (by decide)) (by rw [hex.1]; decide)
                  obtain ⟨y', zg', hy', hcA', q1⟩ := (hS.1 h12).1.zat HKZ.out
                  obtain rfl : zg = zg' := by
                    have q := HCA.out.symm.trans hcA'
                    injection q with q; injection q
                  rw [HY.out] at hy'
                  injection hy' with hy'
                  subst hy'
                  rw [HYA.out] at q1
                  clear hcA'
                  go_simp
                  exact hK.out _ _ (by first | rfl | (simp only [e51]; done) | (simp only [e51]; rfl)) trivial hS
                refine StepsOkE.cons (StepOkE.known rfl fun y W ex hex hS hd K' hK => ?_) ?_
                · skip
                  clear hd
                  go_simp
                  exact hK.out _ _ rfl trivial hS
                refine StepsOkE.cons (StepOkE.known rfl fun y W ex hex hS hd K' hK => ?_) ?_
                · skip
                  clear hd
                  go_simp
                  exact hK.out _ _ rfl trivial hS
                refine StepsOkE.cons (StepOkE.known rfl fun y W ex hex hS hd K' hK => ?_) ?_
                · skip
                  have e54 : y 54 = Value.pointer (some ⟨g8, 4, none⟩) := (hd 7 rfl).val rfl rfl
                  clear hd
                  have h12 : ex 12 = false := by
                    cases h : ex 12 with
                    | false => rfl
                    | true => exact absurd (hex.2.2 12 h 8 (by decide)) (by rw [hex.1]; decide)
                  have q4 := ((hS.1 h12).2.cell 4).trans rfl
                  go_simp
                  exact hK.out _ _ (by first | rfl | (simp only [e54]; done) | (simp only [e54]; rfl)) trivial hS
                refine StepsOkE.cons (StepOkE.known rfl fun y W ex hex hS hd K' hK => ?_) ?_
                · skip
                  have e55 : y 55 = .string e.fmt := (hd 8 rfl).val rfl rfl
                  clear hd
                  have h12 : ex 12 = false := by
                    cases h : ex 12 with
                    | false => rfl
                    | true => exact absurd (hex.2.2 12 h 9 (by decide)) (by rw [hex.1]; decide)
                  go_simp
                  refine (rtformat_any e.fmt W HSZ.out).mono ?_
                  rintro x W' ⟨rfl, hc⟩
                  have hS' := Lib.hid (And.intro ((hS.1 h12).1.below hc) ((hS.1 h12).2.below hc (hS.1 h12).2.lt))
                  rw [HTB.out]
                  go_wp2_with fail
                  exact hK.out _ _ (by first | rfl | (simp only [e55]; done) | (simp only [e55]; rfl)) trivial ⟨fun _ => hS'.out, fun q => absurd (show ex 12 = true from q) (by rw [h12]; decide)⟩
                refine StepsOkE.cons (StepOkE.known rfl fun y W ex hex hS hd K' hK => ?_) ?_
                · skip
                  have e52 : y 52 = .slice (some ⟨yg, 0, none⟩) z.eras.length yv.c := (hd 5 rfl).val rfl rfl
                  have e53 : y 53 = .int .i64 k := (hd 6 rfl).val rfl rfl
                  clear hd
                  go_simp
                  exact hK.out _ _ (by first | rfl | (simp only [e52, e53]; done) | (simp only [e52, e53]; rfl)) trivial hS
                refine StepsOkE.cons (StepOkE.known rfl fun y W ex hex hS hd K' hK => ?_) ?_
                · skip
                  have e57 : y 57 = Value.pointer (some ⟨yg, k * 13, none⟩) := (hd 10 rfl).val rfl rfl
                  clear hd
                  go_simp
                  exact hK.out _ _ (by first | rfl | (simp only [e57]; done) | (simp only [e57]; rfl)) trivial hS
                refine StepsOkE.cons (StepOkE.known rfl fun y W ex hex hS hd K' hK => ?_) ?_
                · skip
                  have e58 : y 58 = Value.pointer (some ⟨yg, k * 13 + 4, none⟩) := (hd 11 rfl).val rfl rfl
                  have e56 : y 56 = .string b := (hd 9 rfl).val rfl rfl
                  clear hd
                  have h12 := hex.1
                  have hr := (hS.1 h12).1
                  obtain ⟨yg', hyA', hye, her⟩ := hr.at_ HKZ.out HE.out HY.out
                  obtain rfl : yg = yg' := by
                    have q := HYA.out.symm.trans hyA'
                    injection q with q; injection q
                  have q4 := her.cellAt len_era hye 4 _ rfl
                  have f4 := her.frozenAt (k * 13 + 4)
                  have HN := Lib.hid (hr.set_ HKZ.out HE.out HY.out HYA.out HKS.out.1 HKS.out.2)
                  rw [HTB.out] at HN
                  clear hr her hyA' hye
                  go_simp
                  exact hK.out _ _ (by first | rfl | (simp only [e58, e56]; done) | (simp only [e58, e56]; rfl)) trivial ⟨(fun q => by cases q), fun _ => HN.out⟩
                exact StepsOkE.nil
            · have hs2 : (e.set.toList == set.toList) = false := eq_b _ _ hst
              have HRX2 := Lib.hid (HRX.out.skip HKZ.out HE.out (turnE_no fun q => hst q.2))
              clear hkd hst HRX
              go_wp2_with fail
              go_roundw
              case rel => exact ⟨k + 1, by have := HLK.out; omega, by go_num, _, HRX2.out⟩
              case measure => have := HLK.out; simp [intOf]; omega
          · have hk2 : (e.kind == 2) = false := by simpa using hkd
            have HRX2 := Lib.hid (HRX.out.skip HKZ.out HE.out (turnE_no fun q => hkd q.1))
            clear hkd HRX
            go_wp2_with fail
            go_roundw
            case rel => exact ⟨k + 1, by have := HLK.out; omega, by go_num, _, HRX2.out⟩
            case measure => have := HLK.out; simp [intOf]; omega
        · obtain rfl : k = z.eras.length := by omega
          have HRX2 := Lib.hid (hrx.zone HKZ.out (Nat.le_refl _))
          clear hrx hlk hk
          go_wp2_with fail
          go_roundw
          case rel => exact ⟨a + 1, by have := HLT.out; omega, by go_num, _, HRX2.out⟩
          case measure => have := HLT.out; simp [intOf]; omega
    · obtain rfl : a = c.zones.length := by omega
      have hdn := hrx.done (Nat.le_refl _)
      have p0 := (hrx.box.cell 0).trans rfl; have p2 := (hrx.box.cell 2).trans rfl; have p3 := (hrx.box.cell 3).trans rfl
      have r0 := (hrx.res.cell 0).trans rfl; have r1 := (hrx.res.cell 1).trans rfl; have r2 := (hrx.res.cell 2).trans rfl; have r3 := (hrx.res.cell 3).trans rfl
      have g0 := hrx.res.frozen 0; have g1 := hrx.res.frozen 1; have g2 := hrx.res.frozen 2; have g3 := hrx.res.frozen 3
      have q4 := GS.set4 hrx.res (.slice c.rA c.rules.length c.rc) (.slice c.zA c.zones.length c.zc) (.slice c.kA c.links.length c.kc) (.slice c.hA c.shifts.length c.hc)
      have k0 := (q4.2.cell 0).trans rfl; have k1 := (q4.2.cell 1).trans rfl; have k2 := (q4.2.cell 2).trans rfl; have k3 := (q4.2.cell 3).trans rfl
      have HQ := Lib.hid q4.1; have HD := Lib.hid hdn
      clear q4 hdn hrx
      go_wp2_with fail
      refine bodyPost_ret (v := .agg #[.slice c.rA c.rules.length c.rc, .slice c.zA c.zones.length c.zc, .slice c.kA c.links.length c.kc, .slice c.hA c.shifts.length c.hc]) (by simp [results, Tryd.results35, go_sem, k0, k1, k2, k3]) rfl ?_
      have hYl : Y.length = c.zones.length := HRX.out.par.1
      refine ⟨{ c with zones := Y }, by show _ = Ending.returned (.agg #[.slice c.rA c.rules.length c.rc, .slice c.zA Y.length c.zc, .slice c.kA c.links.length c.kc, .slice c.hA c.shifts.length c.hc]); rw [hYl], (HRX.out.cp.gs HQ.out).srcG, HD.out.trans (HCS.out.map' (turnE set)), below_set4 HRX.out.bel (Nat.le_succ _) _ _ _ _⟩
end Go.Proofs.YtlideagcmhlkeaaDoor

/- slices.Equal of rules, links, strings and eras, EqualFunc of zones, and analemmalaw13.SameSource: whether two sources are the same. -/
namespace Go.Proofs.YtlideagcmhlkeaaDoor
open Go.RowKit Go.Lib
set_option linter.unusedVariables false
set_option linter.unusedSimpArgs false
attribute [local go_sem high] neq_era neq_rule neq_link

set_option maxRecDepth 100000 in
set_option maxHeartbeats 8000000 in
theorem equal_rule (A B : Option Addr) (c d : Nat) (L M : List RV) (w : World) (hA : CellsIn 11 RV.cells w A L) (hB : CellsIn 11 RV.cells w B M) (hl : L.length ≤ 1100000) :
    Calls Tryd.prog 60 #[.slice A L.length c, .slice B M.length d] w fun e W => ∃ R : Bool, (R = true ↔ L = M) ∧ e = .returned (.bool R) ∧ Below w.heap.size w W := by
  by_cases hlen : L.length = M.length
  rotate_left
  · have hbn : ((L.length : Int) != (M.length : Int)) = true := by rw [bne_iff_ne]; omega
    have HL := Lib.hid hlen
    clear hA hB hlen hl
    go_enter Tryd.func60, Tryd.ntmps60
    go_wp2_with fail
    go_ret
    exact ⟨false, ⟨fun h => (by cases h), fun h => absurd (congrArg List.length h) HL.out⟩, rfl, Below.refl _ _⟩
  have hbn : ((L.length : Int) != (M.length : Int)) = false := by rw [bne_eq_false_iff_eq]; omega
  have HL := Lib.hid hlen; have HA := Lib.hid hA; have HB := Lib.hid hB
  have hl2 : (L.length : Int) ≤ 1100000 := by omega
  clear hlen hA hB
  go_enter Tryd.func60, Tryd.ntmps60
  go_wp2_with fail
  go_loopw [5, 13] (fun s5 i W => ∃ k : Nat, k ≤ L.length ∧ i = .int .i64 k ∧ Below w.heap.size w W ∧ Hid (eTo14 L M k)) (fun _ i _ => L.length - (intOf i).toNat)
  case atStart => exact ⟨0, Nat.zero_le _, rfl, Below.refl _ _, Lib.hid (fun i h => by omega)⟩
  case round =>
    obtain ⟨k, hk, rfl, hbw, hte⟩ := hrel
    obtain ⟨wq, hwq⟩ : ∃ x, x = wr := ⟨_, rfl⟩
    subst hwq
    have HBW := Lib.hid hbw
    clear hbw
    by_cases hlt : k < L.length
    · obtain ⟨x, hx⟩ : ∃ x, L[k]? = some x := ⟨_, List.getElem?_eq_getElem hlt⟩
      obtain ⟨u, hu⟩ : ∃ u, M[k]? = some u := ⟨_, List.getElem?_eq_getElem (by have := HL.out; omega)⟩
      obtain ⟨gx, ox, rfl, hgx, xt⟩ := (HA.out.below HBW.out) k x hx
      obtain ⟨gu, ou, rfl, hgu, ut⟩ := (HB.out.below HBW.out) k u hu
      have x0 : wq.cell? ⟨gx, ox + k * 11, none⟩ = some (.string x.name) := xt 0 _ rfl
      have x1 : wq.cell? ⟨gx, ox + k * 11 + 1, none⟩ = some (.int .i64 x.frm) := xt 1 _ rfl
      have x2 : wq.cell? ⟨gx, ox + k * 11 + 2, none⟩ = some (.int .i64 x.til) := xt 2 _ rfl
      have x3 : wq.cell? ⟨gx, ox + k * 11 + 3, none⟩ = some (.int .i64 x.month) := xt 3 _ rfl
      have x4 : wq.cell? ⟨gx, ox + k * 11 + 4, none⟩ = some (.int .i64 x.dk) := xt 4 _ rfl
      have x5 : wq.cell? ⟨gx, ox + k * 11 + 5, none⟩ = some (.int .i64 x.dw) := xt 5 _ rfl
      have x6 : wq.cell? ⟨gx, ox + k * 11 + 6, none⟩ = some (.int .i64 x.dd) := xt 6 _ rfl
      have x7 : wq.cell? ⟨gx, ox + k * 11 + 7, none⟩ = some (.int .i64 x.asec) := xt 7 _ rfl
      have x8 : wq.cell? ⟨gx, ox + k * 11 + 8, none⟩ = some (.int .i64 x.abase) := xt 8 _ rfl
      have x9 : wq.cell? ⟨gx, ox + k * 11 + 9, none⟩ = some (.int .i64 x.save) := xt 9 _ rfl
      have x10 : wq.cell? ⟨gx, ox + k * 11 + 10, none⟩ = some (.string x.letter) := xt 10 _ rfl
      have u0 : wq.cell? ⟨gu, ou + k * 11, none⟩ = some (.string u.name) := ut 0 _ rfl
      have u1 : wq.cell? ⟨gu, ou + k * 11 + 1, none⟩ = some (.int .i64 u.frm) := ut 1 _ rfl
      have u2 : wq.cell? ⟨gu, ou + k * 11 + 2, none⟩ = some (.int .i64 u.til) := ut 2 _ rfl
      have u3 : wq.cell? ⟨gu, ou + k * 11 + 3, none⟩ = some (.int .i64 u.month) := ut 3 _ rfl
      have u4 : wq.cell? ⟨gu, ou + k * 11 + 4, none⟩ = some (.int .i64 u.dk) := ut 4 _ rfl
      have u5 : wq.cell? ⟨gu, ou + k * 11 + 5, none⟩ = some (.int .i64 u.dw) := ut 5 _ rfl
      have u6 : wq.cell? ⟨gu, ou + k * 11 + 6, none⟩ = some (.int .i64 u.dd) := ut 6 _ rfl
      have u7 : wq.cell? ⟨gu, ou + k * 11 + 7, none⟩ = some (.int .i64 u.asec) := ut 7 _ rfl
      have u8 : wq.cell? ⟨gu, ou + k * 11 + 8, none⟩ = some (.int .i64 u.abase) := ut 8 _ rfl
      have u9 : wq.cell? ⟨gu, ou + k * 11 + 9, none⟩ = some (.int .i64 u.save) := ut 9 _ rfl
      have u10 : wq.cell? ⟨gu, ou + k * 11 + 10, none⟩ = some (.string u.letter) := ut 10 _ rfl
      have hki : (k : Int) < (L.length : Int) := by omega
      have hkj : (k : Int) < (M.length : Int) := by have := HL.out; omega
      have HXX := Lib.hid hx; have HUU := Lib.hid hu; have HLT := Lib.hid hlt
      clear xt ut hx hu hlt
      by_cases hq : x = u
      · have hd : decide (x.name = u.name ∧ x.frm = u.frm ∧ x.til = u.til ∧ x.month = u.month ∧ x.dk = u.dk ∧ x.dw = u.dw ∧ x.dd = u.dd ∧ x.asec = u.asec ∧ x.abase = u.abase ∧ x.save = u.save ∧ x.letter = u.letter) = true := by rw [decide_eq_true_eq]; exact (rv_eq x u).1 hq
        have HTE := Lib.hid (eTo14.succ hte.out (HXX.out.trans (by rw [HUU.out, hq])))
        clear hq hte
        go_wp2_with fail
        go_quiet (fail)
        all_goals
          go_wp2_with fail
          go_roundw
          case rel => exact ⟨k + 1, by have := HLT.out; omega, by simp, below_drewN HBW.out _, HTE⟩
          case measure => have := HLT.out; simp [intOf]; omega
      · have hd : decide (x.name = u.name ∧ x.frm = u.frm ∧ x.til = u.til ∧ x.month = u.month ∧ x.dk = u.dk ∧ x.dw = u.dw ∧ x.dd = u.dd ∧ x.asec = u.asec ∧ x.abase = u.abase ∧ x.save = u.save ∧ x.letter = u.letter) = false := by rw [decide_eq_false_iff_not]; exact fun q => hq ((rv_eq x u).2 q)
        have HN := Lib.hid (show ¬ L = M from fun q => hq (by have h1 := HXX.out; rw [q, HUU.out] at h1; exact (Option.some.inj h1).symm))
        clear hq hte
        go_wp2_with fail
        go_quiet (fail)
        all_goals
          go_wp2_with fail
          go_ret
          exact ⟨false, ⟨fun h => (by cases h), fun h => absurd h HN.out⟩, rfl, below_drewN HBW.out _⟩
    · obtain rfl : k = L.length := by omega
      have HE := Lib.hid (eTo14.all hte.out HL.out)
      clear hte
      go_wp2_with fail
      go_ret
      exact ⟨true, ⟨fun _ => HE.out, fun _ => rfl⟩, rfl, HBW.out⟩
set_option maxRecDepth 100000 in
set_option maxHeartbeats 8000000 in
theorem equal_link (A B : Option Addr) (c d : Nat) (L M : List KV) (w : World) (hA : CellsIn 2 KV.cells w A L) (hB : CellsIn 2 KV.cells w B M) (hl : L.length ≤ 1100000) :
    Calls Tryd.prog 64 #[.slice A L.length c, .slice B M.length d] w fun e W => ∃ R : Bool, (R = true ↔ L = M) ∧ e = .returned (.bool R) ∧ Below w.heap.size w W := by
  by_cases hlen : L.length = M.length
  rotate_left
  · have hbn : ((L.length : Int) != (M.length : Int)) = true := by rw [bne_iff_ne]; omega
    have HL := Lib.hid hlen
    clear hA hB hlen hl
    go_enter Tryd.func64, Tryd.ntmps64
    go_wp2_with fail
    go_ret
    exact ⟨false, ⟨fun h => (by cases h), fun h => absurd (congrArg List.length h) HL.out⟩, rfl, Below.refl _ _⟩
  have hbn : ((L.length : Int) != (M.length : Int)) = false := by rw [bne_eq_false_iff_eq]; omega
  have HL := Lib.hid hlen; have HA := Lib.hid hA; have HB := Lib.hid hB
  have hl2 : (L.length : Int) ≤ 1100000 := by omega
  clear hlen hA hB
  go_enter Tryd.func64, Tryd.ntmps64
  go_wp2_with fail
  go_loopw [5, 13] (fun s5 i W => ∃ k : Nat, k ≤ L.length ∧ i = .int .i64 k ∧ Below w.heap.size w W ∧ Hid (eTo14 L M k)) (fun _ i _ => L.length - (intOf i).toNat)
  case atStart => exact ⟨0, Nat.zero_le _, rfl, Below.refl _ _, Lib.hid (fun i h => by omega)⟩
  case round =>
    obtain ⟨k, hk, rfl, hbw, hte⟩ := hrel
    obtain ⟨wq, hwq⟩ : ∃ x, x = wr := ⟨_, rfl⟩
    subst hwq
    have HBW := Lib.hid hbw
    clear hbw
    by_cases hlt : k < L.length
    · obtain ⟨x, hx⟩ : ∃ x, L[k]? = some x := ⟨_, List.getElem?_eq_getElem hlt⟩
      obtain ⟨u, hu⟩ : ∃ u, M[k]? = some u := ⟨_, List.getElem?_eq_getElem (by have := HL.out; omega)⟩
      obtain ⟨gx, ox, rfl, hgx, xt⟩ := (HA.out.below HBW.out) k x hx
      obtain ⟨gu, ou, rfl, hgu, ut⟩ := (HB.out.below HBW.out) k u hu
      have x0 : wq.cell? ⟨gx, ox + k * 2, none⟩ = some (.string x.target) := xt 0 _ rfl
      have x1 : wq.cell? ⟨gx, ox + k * 2 + 1, none⟩ = some (.string x.name) := xt 1 _ rfl
      have u0 : wq.cell? ⟨gu, ou + k * 2, none⟩ = some (.string u.target) := ut 0 _ rfl
      have u1 : wq.cell? ⟨gu, ou + k * 2 + 1, none⟩ = some (.string u.name) := ut 1 _ rfl
      have hki : (k : Int) < (L.length : Int) := by omega
      have hkj : (k : Int) < (M.length : Int) := by have := HL.out; omega
      have HXX := Lib.hid hx; have HUU := Lib.hid hu; have HLT := Lib.hid hlt
      clear xt ut hx hu hlt
      by_cases hq : x = u
      · have hd : decide (x.target = u.target ∧ x.name = u.name) = true := by rw [decide_eq_true_eq]; exact (kv_eq x u).1 hq
        have HTE := Lib.hid (eTo14.succ hte.out (HXX.out.trans (by rw [HUU.out, hq])))
        clear hq hte
        go_wp2_with fail
        go_quiet (fail)
        all_goals
          go_wp2_with fail
          go_roundw
          case rel => exact ⟨k + 1, by have := HLT.out; omega, by simp, below_drewN HBW.out _, HTE⟩
          case measure => have := HLT.out; simp [intOf]; omega
      · have hd : decide (x.target = u.target ∧ x.name = u.name) = false := by rw [decide_eq_false_iff_not]; exact fun q => hq ((kv_eq x u).2 q)
        have HN := Lib.hid (show ¬ L = M from fun q => hq (by have h1 := HXX.out; rw [q, HUU.out] at h1; exact (Option.some.inj h1).symm))
        clear hq hte
        go_wp2_with fail
        go_quiet (fail)
        all_goals
          go_wp2_with fail
          go_ret
          exact ⟨false, ⟨fun h => (by cases h), fun h => absurd h HN.out⟩, rfl, below_drewN HBW.out _⟩
    · obtain rfl : k = L.length := by omega
      have HE := Lib.hid (eTo14.all hte.out HL.out)
      clear hte
      go_wp2_with fail
      go_ret
      exact ⟨true, ⟨fun _ => HE.out, fun _ => rfl⟩, rfl, HBW.out⟩
set_option maxRecDepth 100000 in
set_option maxHeartbeats 8000000 in
theorem equal_str (A B : Option Addr) (c d : Nat) (L M : List ByteArray) (w : World) (hA : CellsIn 1 (fun b : ByteArray => [Value.string b]) w A L) (hB : CellsIn 1 (fun b : ByteArray => [Value.string b]) w B M) (hl : L.length ≤ 1100000) :
    Calls Tryd.prog 65 #[.slice A L.length c, .slice B M.length d] w fun e W => ∃ R : Bool, (R = true ↔ L = M) ∧ e = .returned (.bool R) ∧ Below w.heap.size w W := by
  by_cases hlen : L.length = M.length
  rotate_left
  · have hbn : ((L.length : Int) != (M.length : Int)) = true := by rw [bne_iff_ne]; omega
    have HL := Lib.hid hlen
    clear hA hB hlen hl
    go_enter Tryd.func65, Tryd.ntmps65
    go_wp2_with fail
    go_ret
    exact ⟨false, ⟨fun h => (by cases h), fun h => absurd (congrArg List.length h) HL.out⟩, rfl, Below.refl _ _⟩
  have hbn : ((L.length : Int) != (M.length : Int)) = false := by rw [bne_eq_false_iff_eq]; omega
  have HL := Lib.hid hlen; have HA := Lib.hid hA; have HB := Lib.hid hB
  have hl2 : (L.length : Int) ≤ 1100000 := by omega
  clear hlen hA hB
  go_enter Tryd.func65, Tryd.ntmps65
  go_wp2_with fail
  go_loopw [5, 13] (fun s5 i W => ∃ k : Nat, k ≤ L.length ∧ i = .int .i64 k ∧ Below w.heap.size w W ∧ Hid (eTo14 L M k)) (fun _ i _ => L.length - (intOf i).toNat)
  case atStart => exact ⟨0, Nat.zero_le _, rfl, Below.refl _ _, Lib.hid (fun i h => by omega)⟩
  case round =>
    obtain ⟨k, hk, rfl, hbw, hte⟩ := hrel
    obtain ⟨wq, hwq⟩ : ∃ x, x = wr := ⟨_, rfl⟩
    subst hwq
    have HBW := Lib.hid hbw
    clear hbw
    by_cases hlt : k < L.length
    · obtain ⟨x, hx⟩ : ∃ x, L[k]? = some x := ⟨_, List.getElem?_eq_getElem hlt⟩
      obtain ⟨u, hu⟩ : ∃ u, M[k]? = some u := ⟨_, List.getElem?_eq_getElem (by have := HL.out; omega)⟩
      obtain ⟨gx, ox, rfl, hgx, xt⟩ := (HA.out.below HBW.out) k x hx
      obtain ⟨gu, ou, rfl, hgu, ut⟩ := (HB.out.below HBW.out) k u hu
      have x0 : wq.cell? ⟨gx, ox + k, none⟩ = some (.string x) := (by have q := xt 0 _ rfl; simpa using q)
      have u0 : wq.cell? ⟨gu, ou + k, none⟩ = some (.string u) := (by have q := ut 0 _ rfl; simpa using q)
      have hki : (k : Int) < (L.length : Int) := by omega
      have hkj : (k : Int) < (M.length : Int) := by have := HL.out; omega
      have HXX := Lib.hid hx; have HUU := Lib.hid hu; have HLT := Lib.hid hlt
      clear xt ut hx hu hlt
      by_cases hq : x = u
      · have hd : (x.toList == u.toList) = true := by rw [hq]; simp
        have HTE := Lib.hid (eTo14.succ hte.out (HXX.out.trans (by rw [HUU.out, hq])))
        clear hq hte
        go_wp2_with fail
        go_quiet (fail)
        all_goals
          go_wp2_with fail
          go_roundw
          case rel => exact ⟨k + 1, by have := HLT.out; omega, by simp, below_drewN HBW.out _, HTE⟩
          case measure => have := HLT.out; simp [intOf]; omega
      · have hd : (x.toList == u.toList) = false := eq_b _ _ hq
        have HN := Lib.hid (show ¬ L = M from fun q => hq (by have h1 := HXX.out; rw [q, HUU.out] at h1; exact (Option.some.inj h1).symm))
        clear hq hte
        go_wp2_with fail
        go_quiet (fail)
        all_goals
          go_wp2_with fail
          go_ret
          exact ⟨false, ⟨fun h => (by cases h), fun h => absurd h HN.out⟩, rfl, below_drewN HBW.out _⟩
    · obtain rfl : k = L.length := by omega
      have HE := Lib.hid (eTo14.all hte.out HL.out)
      clear hte
      go_wp2_with fail
      go_ret
      exact ⟨true, ⟨fun _ => HE.out, fun _ => rfl⟩, rfl, HBW.out⟩
set_option maxRecDepth 100000 in
set_option maxHeartbeats 8000000 in
theorem equal_era (A B : Option Addr) (c d : Nat) (L M : List EV) (w : World) (hA : CellsIn 13 EV.cells w A L) (hB : CellsIn 13 EV.cells w B M) (hl : L.length ≤ 1100000) :
    Calls Tryd.prog 63 #[.slice A L.length c, .slice B M.length d] w fun e W => ∃ R : Bool, (R = true ↔ L = M) ∧ e = .returned (.bool R) ∧ Below w.heap.size w W := by
  by_cases hlen : L.length = M.length
  rotate_left
  · have hbn : ((L.length : Int) != (M.length : Int)) = true := by rw [bne_iff_ne]; omega
    have HL := Lib.hid hlen
    clear hA hB hlen hl
    go_enter Tryd.func63, Tryd.ntmps63
    go_wp2_with fail
    go_ret
    exact ⟨false, ⟨fun h => (by cases h), fun h => absurd (congrArg List.length h) HL.out⟩, rfl, Below.refl _ _⟩
  have hbn : ((L.length : Int) != (M.length : Int)) = false := by rw [bne_eq_false_iff_eq]; omega
  have HL := Lib.hid hlen; have HA := Lib.hid hA; have HB := Lib.hid hB
  have hl2 : (L.length : Int) ≤ 1100000 := by omega
  clear hlen hA hB
  go_enter Tryd.func63, Tryd.ntmps63
  go_wp2_with fail
  go_loopw [5, 13] (fun s5 i W => ∃ k : Nat, k ≤ L.length ∧ i = .int .i64 k ∧ Below w.heap.size w W ∧ Hid (eTo14 L M k)) (fun _ i _ => L.length - (intOf i).toNat)
  case atStart => exact ⟨0, Nat.zero_le _, rfl, Below.refl _ _, Lib.hid (fun i h => by omega)⟩
  case round =>
    obtain ⟨k, hk, rfl, hbw, hte⟩ := hrel
    obtain ⟨wq, hwq⟩ : ∃ x, x = wr := ⟨_, rfl⟩
    subst hwq
    have HBW := Lib.hid hbw
    clear hbw
    by_cases hlt : k < L.length
    · obtain ⟨x, hx⟩ : ∃ x, L[k]? = some x := ⟨_, List.getElem?_eq_getElem hlt⟩
      obtain ⟨u, hu⟩ : ∃ u, M[k]? = some u := ⟨_, List.getElem?_eq_getElem (by have := HL.out; omega)⟩
      obtain ⟨gx, ox, rfl, hgx, xt⟩ := (HA.out.below HBW.out) k x hx
      obtain ⟨gu, ou, rfl, hgu, ut⟩ := (HB.out.below HBW.out) k u hu
      have x0 : wq.cell? ⟨gx, ox + k * 13, none⟩ = some (.int .i64 x.off) := xt 0 _ rfl
      have x1 : wq.cell? ⟨gx, ox + k * 13 + 1, none⟩ = some (.int .i64 x.kind) := xt 1 _ rfl
      have x2 : wq.cell? ⟨gx, ox + k * 13 + 2, none⟩ = some (.int .i64 x.save) := xt 2 _ rfl
      have x3 : wq.cell? ⟨gx, ox + k * 13 + 3, none⟩ = some (.string x.set) := xt 3 _ rfl
      have x4 : wq.cell? ⟨gx, ox + k * 13 + 4, none⟩ = some (.string x.fmt) := xt 4 _ rfl
      have x5 : wq.cell? ⟨gx, ox + k * 13 + 5, none⟩ = some (.bool x.ui) := xt 5 _ rfl
      have x6 : wq.cell? ⟨gx, ox + k * 13 + 6, none⟩ = some (.int .i64 x.uy) := xt 6 _ rfl
      have x7 : wq.cell? ⟨gx, ox + k * 13 + 7, none⟩ = some (.int .i64 x.um) := xt 7 _ rfl
      have x8 : wq.cell? ⟨gx, ox + k * 13 + 8, none⟩ = some (.int .i64 x.dk) := xt 8 _ rfl
      have x9 : wq.cell? ⟨gx, ox + k * 13 + 9, none⟩ = some (.int .i64 x.dw) := xt 9 _ rfl
      have x10 : wq.cell? ⟨gx, ox + k * 13 + 10, none⟩ = some (.int .i64 x.dd) := xt 10 _ rfl
      have x11 : wq.cell? ⟨gx, ox + k * 13 + 11, none⟩ = some (.int .i64 x.asec) := xt 11 _ rfl
      have x12 : wq.cell? ⟨gx, ox + k * 13 + 12, none⟩ = some (.int .i64 x.ab) := xt 12 _ rfl
      have u0 : wq.cell? ⟨gu, ou + k * 13, none⟩ = some (.int .i64 u.off) := ut 0 _ rfl
      have u1 : wq.cell? ⟨gu, ou + k * 13 + 1, none⟩ = some (.int .i64 u.kind) := ut 1 _ rfl
      have u2 : wq.cell? ⟨gu, ou + k * 13 + 2, none⟩ = some (.int .i64 u.save) := ut 2 _ rfl
      have u3 : wq.cell? ⟨gu, ou + k * 13 + 3, none⟩ = some (.string u.set) := ut 3 _ rfl
      have u4 : wq.cell? ⟨gu, ou + k * 13 + 4, none⟩ = some (.string u.fmt) := ut 4 _ rfl
      have u5 : wq.cell? ⟨gu, ou + k * 13 + 5, none⟩ = some (.bool u.ui) := ut 5 _ rfl
      have u6 : wq.cell? ⟨gu, ou + k * 13 + 6, none⟩ = some (.int .i64 u.uy) := ut 6 _ rfl
      have u7 : wq.cell? ⟨gu, ou + k * 13 + 7, none⟩ = some (.int .i64 u.um) := ut 7 _ rfl
      have u8 : wq.cell? ⟨gu, ou + k * 13 + 8, none⟩ = some (.int .i64 u.dk) := ut 8 _ rfl
      have u9 : wq.cell? ⟨gu, ou + k * 13 + 9, none⟩ = some (.int .i64 u.dw) := ut 9 _ rfl
      have u10 : wq.cell? ⟨gu, ou + k * 13 + 10, none⟩ = some (.int .i64 u.dd) := ut 10 _ rfl
      have u11 : wq.cell? ⟨gu, ou + k * 13 + 11, none⟩ = some (.int .i64 u.asec) := ut 11 _ rfl
      have u12 : wq.cell? ⟨gu, ou + k * 13 + 12, none⟩ = some (.int .i64 u.ab) := ut 12 _ rfl
      have hki : (k : Int) < (L.length : Int) := by omega
      have hkj : (k : Int) < (M.length : Int) := by have := HL.out; omega
      have HXX := Lib.hid hx; have HUU := Lib.hid hu; have HLT := Lib.hid hlt
      clear xt ut hx hu hlt
      by_cases hq : x = u
      · have hd : decide (x.off = u.off ∧ x.kind = u.kind ∧ x.save = u.save ∧ x.set = u.set ∧ x.fmt = u.fmt ∧ x.ui = u.ui ∧ x.uy = u.uy ∧ x.um = u.um ∧ x.dk = u.dk ∧ x.dw = u.dw ∧ x.dd = u.dd ∧ x.asec = u.asec ∧ x.ab = u.ab) = true := by rw [decide_eq_true_eq]; exact (ev_eq x u).1 hq
        have HTE := Lib.hid (eTo14.succ hte.out (HXX.out.trans (by rw [HUU.out, hq])))
        clear hq hte
        go_wp2_with fail
        go_quiet (fail)
        all_goals
          go_wp2_with fail
          go_roundw
          case rel => exact ⟨k + 1, by have := HLT.out; omega, by simp, below_drewN HBW.out _, HTE⟩
          case measure => have := HLT.out; simp [intOf]; omega
      · have hd : decide (x.off = u.off ∧ x.kind = u.kind ∧ x.save = u.save ∧ x.set = u.set ∧ x.fmt = u.fmt ∧ x.ui = u.ui ∧ x.uy = u.uy ∧ x.um = u.um ∧ x.dk = u.dk ∧ x.dw = u.dw ∧ x.dd = u.dd ∧ x.asec = u.asec ∧ x.ab = u.ab) = false := by rw [decide_eq_false_iff_not]; exact fun q => hq ((ev_eq x u).2 q)
        have HN := Lib.hid (show ¬ L = M from fun q => hq (by have h1 := HXX.out; rw [q, HUU.out] at h1; exact (Option.some.inj h1).symm))
        clear hq hte
        go_wp2_with fail
        go_quiet (fail)
        all_goals
          go_wp2_with fail
          go_ret
          exact ⟨false, ⟨fun h => (by cases h), fun h => absurd h HN.out⟩, rfl, below_drewN HBW.out _⟩
    · obtain rfl : k = L.length := by omega
      have HE := Lib.hid (eTo14.all hte.out HL.out)
      clear hte
      go_wp2_with fail
      go_ret
      exact ⟨true, ⟨fun _ => HE.out, fun _ => rfl⟩, rfl, HBW.out⟩
set_option maxRecDepth 100000 in
set_option maxHeartbeats 8000000 in
theorem zsame_any (x y : ZV) (w : World) (hx : CellsIn 13 EV.cells w x.A x.eras) (hy : CellsIn 13 EV.cells w y.A y.eras) (hl : x.eras.length ≤ 1100000) :
    Calls Tryd.prog 62 #[.agg #[.string x.name, .slice x.A x.eras.length x.c], .agg #[.string y.name, .slice y.A y.eras.length y.c]] w fun e W => ∃ R : Bool, (R = true ↔ x.name = y.name ∧ x.eras = y.eras) ∧ e = .returned (.bool R) ∧ Below w.heap.size w W := by
  have hb0 := ((Below.refl w.heap.size w).alloc (Nat.le_refl _) (.cells #[.string x.name, .slice x.A x.eras.length x.c] 39)).alloc (by simp) (.cells #[.string y.name, .slice y.A y.eras.length y.c] 39)
  have hx0 := (Blk.new w 39 #[.string x.name, .slice x.A x.eras.length x.c]).alloc (.cells #[.string y.name, .slice y.A y.eras.length y.c] 39)
  have hy0 := Blk.newAt (w.alloc (.cells #[.string x.name, .slice x.A x.eras.length x.c] 39)) (w.heap.size + 1) (by simp) 39 #[.string y.name, .slice y.A y.eras.length y.c]
  have cE := Lib.hid (equal_era x.A y.A x.c y.c x.eras y.eras _ (hx.below hb0) (hy.below hb0) hl)
  have HB0 := Lib.hid hb0
  have c0 := (hx0.cell 0).trans rfl; have c1 := (hx0.cell 1).trans rfl
  have d0 := (hy0.cell 0).trans rfl; have d1 := (hy0.cell 1).trans rfl
  clear hx hy hb0 hx0 hy0
  by_cases hn : x.name = y.name
  · have bn : (x.name.toList == y.name.toList) = true := by rw [hn]; simp
    have HN := Lib.hid hn
    clear hn
    go_enter Tryd.func62, Tryd.ntmps62
    go_wp2_with fail
    refine cE.out.mono ?_
    rintro e W ⟨R, hR, rfl, hc⟩
    have HR := Lib.hid hR; have HC := Lib.hid (HB0.out.trans (hc.mono HB0.out.size))
    clear hR hc cE c0 c1 d0 d1
    go_wp2_with fail
    go_ret
    exact ⟨R, ⟨fun h => ⟨HN.out, HR.out.1 h⟩, fun h => HR.out.2 h.2⟩, rfl, HC.out⟩
  · have bn : (x.name.toList == y.name.toList) = false := eq_b _ _ hn
    have HN := Lib.hid hn
    clear hn cE
    go_enter Tryd.func62, Tryd.ntmps62
    go_wp2_with fail
    go_ret
    exact ⟨false, ⟨fun h => (by cases h), fun h => absurd h.1 HN.out⟩, rfl, HB0.out⟩
set_option maxRecDepth 100000 in
set_option maxHeartbeats 8000000 in
theorem equal_zones (Z Y : List ZV) (A B : Option Addr) (c d : Nat) (w : World) (hZ : CellsIn 2 ZV.cells w A Z) (hY : CellsIn 2 ZV.cells w B Y) (eZ : ∀ z ∈ Z, CellsIn 13 EV.cells w z.A z.eras) (eY : ∀ z ∈ Y, CellsIn 13 EV.cells w z.A z.eras) (hl : Z.length ≤ 1000) (hm : ∀ z ∈ Z, z.eras.length ≤ 1000) :
    Calls Tryd.prog 61 #[.slice A Z.length c, .slice B Y.length d, .func (.func 62) #[] #[]] w fun e W => ∃ R : Bool, (R = true ↔ zSame14 Z Y) ∧ e = .returned (.bool R) ∧ Below w.heap.size w W := by
  by_cases hlen : Z.length = Y.length
  rotate_left
  · have hbn : ((Z.length : Int) != (Y.length : Int)) = true := by rw [bne_iff_ne]; omega
    have HL := Lib.hid hlen
    clear hZ hY eZ eY hlen hl hm
    go_enter Tryd.func61, Tryd.ntmps61
    go_wp2_with fail
    go_ret
    exact ⟨false, ⟨fun h => (by cases h), fun h => absurd h.1 HL.out⟩, rfl, Below.refl _ _⟩
  have hbn : ((Z.length : Int) != (Y.length : Int)) = false := by rw [bne_eq_false_iff_eq]; omega
  have HL := Lib.hid hlen; have HZ := Lib.hid hZ; have HY := Lib.hid hY; have EZ := Lib.hid eZ; have EY := Lib.hid eY; have HM := Lib.hid hm
  have hent : ∀ args w, (callFunc 62 args).run Tryd.prog w = .ok (.enter 62 args) w := enters_of Tryd.func62 (by kernel_rfl) rfl
  have hl2 : (Z.length : Int) ≤ 1000 := by omega
  clear hZ hY eZ eY hlen hm
  go_enter Tryd.func61, Tryd.ntmps61
  go_wp2_with fail
  go_loopw [7, 8, 9, 17] (fun s7 s8 s9 i W => ∃ k : Nat, k ≤ Z.length ∧ i = .int .i64 k ∧ Below w.heap.size w W ∧ Hid (zTo14 Z Y k)) (fun _ _ _ i _ => Z.length - (intOf i).toNat)
  case atStart => exact ⟨0, Nat.zero_le _, rfl, Below.refl _ _, Lib.hid (fun i z y h => by omega)⟩
  case round =>
    obtain ⟨wq, hwq⟩ : ∃ x, x = wr := ⟨_, rfl⟩
    subst hwq
    obtain ⟨k, hk, rfl, hbw, hto⟩ := hrel
    have HBW := Lib.hid hbw
    clear hbw
    by_cases hlt : k < Z.length
    · obtain ⟨z, hz⟩ : ∃ z, Z[k]? = some z := ⟨_, List.getElem?_eq_getElem hlt⟩
      obtain ⟨y, hy⟩ : ∃ y, Y[k]? = some y := ⟨_, List.getElem?_eq_getElem (by have := HL.out; omega)⟩
      obtain ⟨gz, oz, rfl, hgz, hzt⟩ := (HZ.out.below HBW.out) k z hz
      obtain ⟨gy, oy, rfl, hgy, hyt⟩ := (HY.out.below HBW.out) k y hy
      have hb2 := (HBW.out.alloc HBW.out.size (.cells #[.string z.name, .slice z.A z.eras.length z.c] 39)).alloc (by have := HBW.out.size; simp; omega) (.cells #[.string y.name, .slice y.A y.eras.length y.c] 39)
      have cE := Lib.hid (zsame_any z y _ ((EZ.out z (List.mem_of_getElem? hz)).below hb2) ((EY.out y (List.mem_of_getElem? hy)).below hb2) (by have := HM.out z (List.mem_of_getElem? hz); omega))
      have HB2 := Lib.hid hb2
      have e0 := (((Blk.new wq 39 #[.string z.name, .slice z.A z.eras.length z.c]).alloc (.cells #[.string y.name, .slice y.A y.eras.length y.c] 39)).cell 0).trans rfl
      have e1 := (((Blk.new wq 39 #[.string z.name, .slice z.A z.eras.length z.c]).alloc (.cells #[.string y.name, .slice y.A y.eras.length y.c] 39)).cell 1).trans rfl
      have f0 := ((Blk.newAt (wq.alloc (.cells #[.string z.name, .slice z.A z.eras.length z.c] 39)) (wq.heap.size + 1) (by simp) 39 #[.string y.name, .slice y.A y.eras.length y.c]).cell 0).trans rfl
      have f1 := ((Blk.newAt (wq.alloc (.cells #[.string z.name, .slice z.A z.eras.length z.c] 39)) (wq.heap.size + 1) (by simp) 39 #[.string y.name, .slice y.A y.eras.length y.c]).cell 1).trans rfl
      have a0 : wq.cell? ⟨gz, oz + k * 2, none⟩ = some (.string z.name) := hzt 0 _ rfl
      have a1 : wq.cell? ⟨gz, oz + k * 2 + 1, none⟩ = some (.slice z.A z.eras.length z.c) := hzt 1 _ rfl
      have hal := (Below.refl wq.heap.size wq).alloc (Nat.le_refl _) (.cells #[.string z.name, .slice z.A z.eras.length z.c] 39)
      have b0 : (wq.alloc (.cells #[.string z.name, .slice z.A z.eras.length z.c] 39)).cell? ⟨gy, oy + k * 2, none⟩ = some (.string y.name) := (hal.cell (p := ⟨gy, oy + k * 2, none⟩) hgy).trans (hyt 0 _ rfl)
      have b1 : (wq.alloc (.cells #[.string z.name, .slice z.A z.eras.length z.c] 39)).cell? ⟨gy, oy + k * 2 + 1, none⟩ = some (.slice y.A y.eras.length y.c) := (hal.cell (p := ⟨gy, oy + k * 2 + 1, none⟩) hgy).trans (hyt 1 _ rfl)
      have hki : (k : Int) < (Z.length : Int) := by omega
      have hkj : (k : Int) < (Y.length : Int) := by have := HL.out; omega
      have HKZ := Lib.hid hz; have HKY := Lib.hid hy; have HLT := Lib.hid hlt
      clear hzt hyt hz hy hlt hb2 hal
      go_wp2_with fail
      refine cE.out.mono ?_
      rintro e W2 ⟨R, hR, rfl, hc⟩
      have HC := Lib.hid (HB2.out.trans (hc.mono HB2.out.size)); have HR := Lib.hid hR
      clear hc hR cE a0 a1 b0 b1 e0 e1 f0 f1
      cases R with
      | true =>
        have HTO := Lib.hid (hto.out.succ HKZ.out HKY.out (HR.out.1 rfl).1 (HR.out.1 rfl).2)
        clear hto
        go_wp2_with fail
        go_roundw
        case rel => exact ⟨k + 1, by have := HLT.out; omega, by simp, HC.out, HTO⟩
        case measure => have := HLT.out; simp [intOf]; omega
      | false =>
        have HN := Lib.hid (show ¬ zSame14 Z Y from fun q => by have := HR.out.2 (q.2 k z y HLT.out HKZ.out HKY.out); cases this)
        clear hto
        go_wp2_with fail
        go_ret
        exact ⟨false, ⟨fun h => (by cases h), fun h => absurd h HN.out⟩, rfl, HC.out⟩
    · obtain rfl : k = Z.length := by omega
      have HE := Lib.hid (show zSame14 Z Y from ⟨HL.out, hto.out⟩)
      clear hto
      go_wp2_with fail
      go_ret
      exact ⟨true, ⟨fun _ => HE.out, fun _ => rfl⟩, rfl, HBW.out⟩
set_option maxRecDepth 100000 in
set_option maxHeartbeats 8000000 in
theorem same13_any (a b : SV) (w : World) (hA : SrcIn w a) (hB : SrcIn w b) (hf : big14 a) :
    Calls Tryd.prog 34 #[.agg #[.slice a.rA a.rules.length a.rc, .slice a.zA a.zones.length a.zc, .slice a.kA a.links.length a.kc, .slice a.hA a.shifts.length a.hc], .agg #[.slice b.rA b.rules.length b.rc, .slice b.zA b.zones.length b.zc, .slice b.kA b.links.length b.kc, .slice b.hA b.shifts.length b.hc]] w fun e W => ∃ R : Bool, (R = true ↔ sSame14 a b) ∧ e = .returned (.bool R) ∧ Below w.heap.size w W := by
  have HA := Lib.hid hA; have HB := Lib.hid hB; have HF := Lib.hid hf
  have HX := Lib.hid (box14_new w a b)
  have hent : ∀ args w, (callFunc 62 args).run Tryd.prog w = .ok (.enter 62 args) w := enters_of Tryd.func62 (by kernel_rfl) rfl
  have cR := Lib.hid (fun W (h : Below w.heap.size w W) => equal_rule a.rA b.rA a.rc b.rc a.rules b.rules W (HA.out.rules.below h) (HB.out.rules.below h) (by have := HF.out.1; omega))
  have cZ := Lib.hid (fun W (h : Below w.heap.size w W) => equal_zones a.zones b.zones a.zA b.zA a.zc b.zc W (HA.out.zones.below h) (HB.out.zones.below h) (fun z hz => (HA.out.eras z hz).below h) (fun z hz => (HB.out.eras z hz).below h) HF.out.2.1 HF.out.2.2.2.2)
  have cK := Lib.hid (fun W (h : Below w.heap.size w W) => equal_link a.kA b.kA a.kc b.kc a.links b.links W (HA.out.links.below h) (HB.out.links.below h) (by have := HF.out.2.2.1; omega))
  have cH := Lib.hid (fun W (h : Below w.heap.size w W) => equal_str a.hA b.hA a.hc b.hc a.shifts b.shifts W (HA.out.shifts.below h) (HB.out.shifts.below h) (by have := HF.out.2.2.2.1; omega))
  clear hA hB hf
  go_enter Tryd.func34, Tryd.ntmps34
  have c0 := (HX.out.one.cell 0).trans rfl; have d0 := (HX.out.two.cell 0).trans rfl
  go_wp2_with fail
  refine (cR.out _ HX.out.bel).mono ?_
  rintro e W0 ⟨R0, hR, rfl, hc⟩
  have HX0 := Lib.hid (HX.out.below hc); have HR0 := Lib.hid hR
  clear hR hc cR c0 d0 HX
  cases R0 with
  | false =>
    go_wp2_with fail
    go_ret
    exact ⟨false, ⟨fun h => (by cases h), fun h => absurd (HR0.out.2 h.rules) (by simp)⟩, rfl, HX0.out.bel⟩
  | true =>
    have c1 := (HX0.out.one.cell 1).trans rfl; have d1 := (HX0.out.two.cell 1).trans rfl
    go_wp2_with fail
    refine (cZ.out _ HX0.out.bel).mono ?_
    rintro e W1 ⟨R1, hR, rfl, hc⟩
    have HX1 := Lib.hid (HX0.out.below hc); have HR1 := Lib.hid hR
    clear hR hc cZ c1 d1 HX0
    cases R1 with
    | false =>
      go_wp2_with fail
      go_ret
      exact ⟨false, ⟨fun h => (by cases h), fun h => absurd (HR1.out.2 h.zones) (by simp)⟩, rfl, HX1.out.bel⟩
    | true =>
      have c2 := (HX1.out.one.cell 2).trans rfl; have d2 := (HX1.out.two.cell 2).trans rfl
      go_wp2_with fail
      refine (cK.out _ HX1.out.bel).mono ?_
      rintro e W2 ⟨R2, hR, rfl, hc⟩
      have HX2 := Lib.hid (HX1.out.below hc); have HR2 := Lib.hid hR
      clear hR hc cK c2 d2 HX1
      cases R2 with
      | false =>
        go_wp2_with fail
        go_ret
        exact ⟨false, ⟨fun h => (by cases h), fun h => absurd (HR2.out.2 h.links) (by simp)⟩, rfl, HX2.out.bel⟩
      | true =>
        have c3 := (HX2.out.one.cell 3).trans rfl; have d3 := (HX2.out.two.cell 3).trans rfl
        go_wp2_with fail
        refine (cH.out _ HX2.out.bel).mono ?_
        rintro e W3 ⟨R3, hR, rfl, hc⟩
        have HX3 := Lib.hid (HX2.out.below hc); have HR3 := Lib.hid hR
        clear hR hc cH c3 d3 HX2
        go_wp2_with fail
        go_ret
        exact ⟨R3, ⟨fun h => ⟨HR0.out.1 (by trivial), HR2.out.1 (by trivial), HR3.out.1 h, HR1.out.1 (by trivial)⟩, fun h => HR3.out.2 h.shifts⟩, rfl, HX3.out.bel⟩
end Go.Proofs.YtlideagcmhlkeaaDoor

/- The rules of a set (ruleset.Of): what it returns. -/
namespace Go.Proofs.YtlideagcmhlkeaaDoor
open Go.RowKit Go.Lib
set_option linter.unusedVariables false
set_option linter.unusedSimpArgs false

end Go.Proofs.YtlideagcmhlkeaaDoor

/- expand.number: what stands for %z in an era of a source. -/
namespace Go.Proofs.YtlideagcmhlkeaaDoor
open Go.RowKit Go.Lib
set_option linter.unusedVariables false
set_option linter.unusedSimpArgs false

end Go.Proofs.YtlideagcmhlkeaaDoor

/- The changes of FORMATs that Expand and Contract make: their closures. -/
namespace Go.Proofs.YtlideagcmhlkeaaDoor
open Go.RowKit Go.Lib
set_option linter.unusedVariables false
set_option linter.unusedSimpArgs false

end Go.Proofs.YtlideagcmhlkeaaDoor

/- Expand and Contract (chapter 30): the FORMATs changed, or the first error. -/
namespace Go.Proofs.YtlideagcmhlkeaaDoor
open Go.RowKit Go.Lib
set_option linter.unusedVariables false
set_option linter.unusedSimpArgs false

end Go.Proofs.YtlideagcmhlkeaaDoor

/- The examples of chapter 30 (works), and turns for Expand and Contract. -/
namespace Go.Proofs.YtlideagcmhlkeaaDoor
open Go.RowKit Go.Lib
set_option linter.unusedVariables false
set_option linter.unusedSimpArgs false

/-- what the sources of the examples keep within -/
def BdE (e : EV) (sv : List Int) : Prop := (-9223372036854775808 ≤ e.off ∧ e.off ≤ 9223372036854775807) ∧ (-9223372036854775808 ≤ e.save ∧ e.save ≤ 9223372036854775807) ∧ e.fmt.size ≤ 1100000 ∧ sv.length ≤ 100 ∧ ∀ y ∈ sv, -9223372036854775808 ≤ y ∧ y ≤ 9223372036854775807
instance (e : EV) (sv : List Int) : Decidable (BdE e sv) := by unfold BdE; infer_instance
end Go.Proofs.YtlideagcmhlkeaaDoor

/- The walk of the reference's Expansion (chapter 20). -/
namespace Go.Proofs.YtlideagcmhlkeaaDoor
open Go.RowKit
set_option linter.unusedVariables false

end Go.Proofs.YtlideagcmhlkeaaDoor

/- The reference of chapter 30: the rules of a set, what stands for %z. -/
namespace Go.Proofs.YtlideagcmhlkeaaDoor
open Go.RowKit Go.Lib
set_option linter.unusedVariables false
set_option linter.unusedSimpArgs false

end Go.Proofs.YtlideagcmhlkeaaDoor

/- The reference of chapter 30: Expand and Contract. -/
namespace Go.Proofs.YtlideagcmhlkeaaDoor
open Go.RowKit Go.Lib
set_option linter.unusedVariables false
set_option linter.unusedSimpArgs false

/-- where the walk stands: the boxes, the copy whose zones are Y, what is changed so far -/
structure Rx (w W : World) (s c : SV) (F : EV → ByteArray × Int) (G0 base : Nat) (Y : List ZV) (i k : Nat) : Prop where
  src : Blk W w.heap.size 32 #[.slice s.rA s.rules.length s.rc, .slice s.zA s.zones.length s.zc, .slice s.kA s.links.length s.kc, .slice s.hA s.shifts.length s.hc]
  res : Blk W (w.heap.size + 1) 32 #[.slice none 0 0, .slice none 0 0, .slice none 0 0, .slice none 0 0]
  box : Blk W G0 32 #[.slice c.rA c.rules.length c.rc, .slice c.zA c.zones.length c.zc, .slice c.kA c.links.length c.kc, .slice c.hA c.shifts.length c.hc]
  cp : CopyOf W base { c with zones := Y } { c with zones := Y }
  par : part30 (fmtE F) s.zones Y i k
  ok : okTo30 F s.zones i k
  bel : Below w.heap.size w W
  le : w.heap.size + 2 ≤ base ∧ w.heap.size + 2 ≤ G0
theorem Rx.below {w W W' : World} {s c : SV} {F : EV → ByteArray × Int} {G0 base : Nat} {Y : List ZV} {i k : Nat} (h : Rx w W s c F G0 base Y i k) (hb : Below W.heap.size W W') : Rx w W' s c F G0 base Y i k :=
  ⟨h.src.below hb h.src.lt, h.res.below hb h.res.lt, h.box.below hb h.box.lt, h.cp.below hb, h.par, h.ok, h.bel.trans (hb.mono h.bel.size), h.le⟩
theorem Rx.skip {w W : World} {s c : SV} {F : EV → ByteArray × Int} {G0 base : Nat} {Y : List ZV} {i k : Nat} {z : ZV} {e : EV} (h : Rx w W s c F G0 base Y i k) (hz : s.zones[i]? = some z) (he : z.eras[k]? = some e) (h0 : F e = (e.fmt, 0)) : Rx w W s c F G0 base Y i (k + 1) :=
  ⟨h.src, h.res, h.box, h.cp, h.par.skip hz he (by unfold fmtE; rw [h0]), h.ok.step hz he (by rw [h0]), h.bel, h.le⟩
theorem Rx.zone {w W : World} {s c : SV} {F : EV → ByteArray × Int} {G0 base : Nat} {Y : List ZV} {i k : Nat} {z : ZV} (h : Rx w W s c F G0 base Y i k) (hz : s.zones[i]? = some z) (hk : z.eras.length ≤ k) : Rx w W s c F G0 base Y (i + 1) 0 :=
  ⟨h.src, h.res, h.box, h.cp, h.par.zone hz hk, h.ok.zone hz hk, h.bel, h.le⟩
/-- the era at a place of the copy: where it lies -/
theorem Rx.at_ {w W : World} {s c : SV} {F : EV → ByteArray × Int} {G0 base : Nat} {Y : List ZV} {i k : Nat} {z : ZV} {e : EV} (h : Rx w W s c F G0 base Y i k) (hz : s.zones[i]? = some z) (he : z.eras[k]? = some e) :
    ∃ (y : ZV) (zg yg : Nat), Y[i]? = some y ∧ c.zA = some ⟨zg, 0, none⟩ ∧ y.A = some ⟨yg, 0, none⟩ ∧ W.cell? ⟨zg, i * 2 + 1, none⟩ = some (.slice (some ⟨yg, 0, none⟩) z.eras.length y.c) ∧ W.cell? ⟨yg, k * 13 + 4, none⟩ = some (.string e.fmt) ∧ W.frozen? ⟨yg, k * 13 + 4, none⟩ = false ∧ Y.length = s.zones.length := by
  obtain ⟨y, hy, hye⟩ := h.par.at_ hz he
  have hyl := (List.getElem?_eq_some_iff.1 hy).1
  obtain ⟨zg, hzA, _, _⟩ := h.cp.zones.1.addr (by show 0 < Y.length; omega)
  have hkl := (List.getElem?_eq_some_iff.1 hye).1
  obtain ⟨yg, hyA, _, _⟩ := h.cp.eraAddr (show ({ c with zones := Y } : SV).zones[i]? = some y from hy) (by omega)
  have hzr : RowOf W base 39 2 ZV.cells c.zA c.zc Y := h.cp.zones.1
  rw [show c.zA = some ⟨zg, 0, none⟩ from hzA] at hzr
  have her := h.cp.zones.2.eras i y hy
  rw [hyA] at her
  have q1 := hzr.cellAt len_zone hy 1 _ rfl
  rw [hyA, (h.par.2 i z y hz hy).2.1] at q1
  exact ⟨y, zg, yg, hy, hzA, hyA, q1, her.cellAt len_era hye 4 _ rfl, her.frozenAt _, h.par.1⟩
theorem Rx.set_ {w W : World} {s c : SV} {F : EV → ByteArray × Int} {G0 base : Nat} {Y : List ZV} {i k : Nat} {z y : ZV} {e : EV} {yg : Nat} (h : Rx w W s c F G0 base Y i k) (hz : s.zones[i]? = some z) (he : z.eras[k]? = some e) (hy : Y[i]? = some y) (hA : y.A = some ⟨yg, 0, none⟩) (f : ByteArray) (h0 : F e = (f, 0)) :
    Rx w (W.setCell ⟨yg, k * 13 + 4, none⟩ (.string f)) s c F G0 base (Y.set i { y with eras := y.eras.set k (fmtE F e) }) i (k + 1) := by
  have her := h.cp.zones.2.eras i y hy
  rw [hA] at her
  have hO : (Value.slice (some ⟨yg, 0, none⟩) y.eras.length y.c).ownBlock = some yg := rfl
  obtain ⟨y', hy', hye⟩ := h.par.at_ hz he
  rw [hy] at hy'
  injection hy' with hy'
  subst hy'
  have hge := (World.ownsRow.lt her yg rfl).1
  have hl := h.le
  refine ⟨blk_set_other h.src her hO (by decide) _, blk_set_other h.res her hO (by decide) _, blk_set_other h.box her hO (by decide) _, ?_, h.par.step hz hy he, h.ok.step hz he (by rw [h0]), h.bel.setCell (by show w.heap.size ≤ yg; omega) _, h.le⟩
  exact h.cp.setCell (t := { c with zones := Y }) hy hA hye (.string f) (by decide) (by unfold fmtE; rw [h0]; rfl)
theorem Rx.done {w W : World} {s c : SV} {F : EV → ByteArray × Int} {G0 base : Nat} {Y : List ZV} {i : Nat} (h : Rx w W s c F G0 base Y i 0) (hi : s.zones.length ≤ i) (hc : sSame14 c s) : sSame14 { c with zones := Y } (mapS (fmtE F) s) ∧ ErrIs F s.zones 0 :=
  ⟨⟨hc.rules, hc.links, hc.shifts, h.par.all hi⟩, ErrIs.ok h.ok hi⟩

end Go.Proofs.YtlideagcmhlkeaaDoor

/- The walk of Few (chapter 14): what it says of a source. -/
namespace Go.Proofs.YtlideagcmhlkeaaDoor
open Go.RowKit Go.Lib
set_option linter.unusedVariables false
set_option linter.unusedSimpArgs false

end Go.Proofs.YtlideagcmhlkeaaDoor

/- The walk of the law ExpandForms (chapter 30). -/
namespace Go.Proofs.YtlideagcmhlkeaaDoor
open Go.RowKit Go.Lib
set_option linter.unusedVariables false
set_option linter.unusedSimpArgs false

theorem Res30.two {F : EV → ByteArray × Int} {s a b : SV} {n m : Int} (h : Res30 F s a n) (k : Res30 F s b m) : n = m ∧ sSame14 a b := by
  have e := h.err.uniq k.err
  refine ⟨e, ?_⟩
  by_cases h0 : n = 0
  · exact (h.yes h0).trans (k.yes (e ▸ h0)).symm
  · exact (h.no h0).trans (k.no (e ▸ h0)).symm
theorem Res30.big {F : EV → ByteArray × Int} {s a : SV} {n : Int} (hf : Few30 s) (h : Res30 F s a n) : big14 a := by
  by_cases h0 : n = 0
  · exact big_map hf (h.yes h0)
  · exact big_nil (h.no h0)
/-- numbers of the machine -/
structure Nums30 (s : SV) : Prop where
  lens : s.rules.length ≤ maxLen ∧ s.zones.length ≤ maxLen ∧ s.links.length ≤ maxLen ∧ s.shifts.length ≤ maxLen ∧ ∀ z ∈ s.zones, z.eras.length ≤ maxLen
  eras : ∀ z ∈ s.zones, ∀ e ∈ z.eras, (-9223372036854775808 ≤ e.off ∧ e.off ≤ 9223372036854775807) ∧ (-9223372036854775808 ≤ e.save ∧ e.save ≤ 9223372036854775807)
  saves : SvOk s.rules
end Go.Proofs.YtlideagcmhlkeaaDoor

/- What an era by value and a slice of rules that come in read as (for the cards of chapter 20 and above). -/
namespace Go.Proofs.YtlideagcmhlkeaaDoor
open Go.RowKit Go.ChangeShapes Go.WideShapes
set_option linter.unusedVariables false

section
variable {H : Type} {enc : TypeId × Value → H} {w : World} {base : Nat} {sp : Nat → Bool} {held : Bool}
theorem field_of {P : Program} {t : TypeId} {fs : Array Field} {fuel : Nat} {cs : List Value} {x : DataW H × List MemPlace} (ht : P.underlying t = some (.struct fs)) (h : DataW.trod enc P w base sp held fuel t cs = some x) (i : Nat) (ty : TypeId) (o s : Nat)
    (hf : (fs[i]?).map (fun f => (f.type, f.offset, P.cellsOf f.type)) = some (ty, o, s)) : ∃ n y, DataW.trod enc P w base sp held n ty ((cs.drop o).take s) = some y := by
  obtain ⟨xs, n, _, _, _, hl, hg⟩ := DataW.trod_struct ht h
  cases hq : fs[i]? with
  | none => rw [hq] at hf; cases hf
  | some f =>
    rw [hq] at hf
    simp only [Option.map_some, Option.some.injEq, Prod.mk.injEq] at hf
    obtain ⟨rfl, rfl, rfl⟩ := hf
    have hi : i < xs.length := by rw [hl]; exact (Array.getElem?_eq_some_iff.1 hq).1
    exact ⟨n, xs[i], (hg i f hq).trans (List.getElem?_eq_getElem hi)⟩
theorem leaf_int {P : Program} {t : TypeId} {fs : Array Field} {fuel : Nat} {cs : List Value} {x : DataW H × List MemPlace} (ht : P.underlying t = some (.struct fs)) (h : DataW.trod enc P w base sp held fuel t cs = some x) (i : Nat) (ty : TypeId) (o : Nat) (k : IntKind)
    (hf : (fs[i]?).map (fun f => (f.type, f.offset, P.cellsOf f.type)) = some (ty, o, 1)) (hk : P.underlying ty = some (.int k)) : ∃ n, (cs.drop o).take 1 = [.int k n] ∧ (Lit.int k n).wf = true := by
  obtain ⟨n, y, hy⟩ := field_of ht h i ty o 1 hf
  obtain ⟨z, e, _, hw⟩ := DataW.trod_int hk hy
  exact ⟨z, e, hw⟩
theorem leaf_str {P : Program} {t : TypeId} {fs : Array Field} {fuel : Nat} {cs : List Value} {x : DataW H × List MemPlace} (ht : P.underlying t = some (.struct fs)) (h : DataW.trod enc P w base sp held fuel t cs = some x) (i : Nat) (ty : TypeId) (o : Nat)
    (hf : (fs[i]?).map (fun f => (f.type, f.offset, P.cellsOf f.type)) = some (ty, o, 1)) (hk : P.underlying ty = some .string) : ∃ s : ByteArray, (cs.drop o).take 1 = [.string s] ∧ s.size ≤ maxLen := by
  obtain ⟨n, y, hy⟩ := field_of ht h i ty o 1 hf
  obtain ⟨z, e, _, hw⟩ := DataW.trod_string hk hy
  exact ⟨z, e, hw⟩
theorem leaf_bool {P : Program} {t : TypeId} {fs : Array Field} {fuel : Nat} {cs : List Value} {x : DataW H × List MemPlace} (ht : P.underlying t = some (.struct fs)) (h : DataW.trod enc P w base sp held fuel t cs = some x) (i : Nat) (ty : TypeId) (o : Nat)
    (hf : (fs[i]?).map (fun f => (f.type, f.offset, P.cellsOf f.type)) = some (ty, o, 1)) (hk : P.underlying ty = some .bool) : ∃ b, (cs.drop o).take 1 = [.bool b] := by
  obtain ⟨n, y, hy⟩ := field_of ht h i ty o 1 hf
  obtain ⟨z, e, _⟩ := DataW.trod_bool hk hy
  exact ⟨z, e⟩
/-- a rule's cells -/
theorem open_rule {fuel : Nat} {cs : List Value} {x : DataW H × List MemPlace} (hlen : cs.length = 11) (h : DataW.trod enc Tryd.prog w base sp held fuel 83 cs = some x) : ∃ r : RV, cs = r.cells ∧ (Lit.int .i64 r.save).wf = true := by
  match cs, hlen with
  | [c0, c1, c2, c3, c4, c5, c6, c7, c8, c9, c10], _ =>
    obtain ⟨s0, e0, _⟩ := leaf_str Tryd.underlying83 h 0 9 0 (by kernel_rfl) Tryd.underlying9
    obtain ⟨n1, e1, _⟩ := leaf_int Tryd.underlying83 h 1 3 1 .i64 (by kernel_rfl) Tryd.underlying3
    obtain ⟨n2, e2, _⟩ := leaf_int Tryd.underlying83 h 2 3 2 .i64 (by kernel_rfl) Tryd.underlying3
    obtain ⟨n3, e3, _⟩ := leaf_int Tryd.underlying83 h 3 3 3 .i64 (by kernel_rfl) Tryd.underlying3
    obtain ⟨m, y, hd⟩ := field_of Tryd.underlying83 h 4 41 4 3 (by kernel_rfl)
    obtain ⟨n4, e4, _⟩ := leaf_int Tryd.underlying41 hd 0 3 0 .i64 (by kernel_rfl) Tryd.underlying3
    obtain ⟨n5, e5, _⟩ := leaf_int Tryd.underlying41 hd 1 3 1 .i64 (by kernel_rfl) Tryd.underlying3
    obtain ⟨n6, e6, _⟩ := leaf_int Tryd.underlying41 hd 2 3 2 .i64 (by kernel_rfl) Tryd.underlying3
    obtain ⟨m', y', hc⟩ := field_of Tryd.underlying83 h 5 43 7 2 (by kernel_rfl)
    obtain ⟨n7, e7, _⟩ := leaf_int Tryd.underlying43 hc 0 2 0 .i64 (by kernel_rfl) Tryd.underlying2
    obtain ⟨n8, e8, _⟩ := leaf_int Tryd.underlying43 hc 1 3 1 .i64 (by kernel_rfl) Tryd.underlying3
    obtain ⟨n9, e9, w9⟩ := leaf_int Tryd.underlying83 h 6 2 9 .i64 (by kernel_rfl) Tryd.underlying2
    obtain ⟨s10, e10, _⟩ := leaf_str Tryd.underlying83 h 7 9 10 (by kernel_rfl) Tryd.underlying9
    simp only [List.drop_succ_cons, List.drop_zero, List.take_succ_cons, List.take_zero, List.cons.injEq, and_true] at e0 e1 e2 e3 e4 e5 e6 e7 e8 e9 e10
    subst e0 e1 e2 e3 e4 e5 e6 e7 e8 e9 e10
    exact ⟨⟨s0, n1, n2, n3, n4, n5, n6, n7, n8, n9, s10⟩, rfl, w9⟩
/-- an era by value -/
theorem open_era {fuel : Nat} {cs : List Value} {x : DataW H × List MemPlace} (hlen : cs.length = 13) (h : DataW.trod enc Tryd.prog w base sp held fuel 47 cs = some x) :
    ∃ (off kind save : Int) (set fmt : ByteArray) (ui : Bool) (uy um dk dw dd asec ab : Int), cs = [.int .i64 off, .int .i64 kind, .int .i64 save, .string set, .string fmt, .bool ui, .int .i64 uy, .int .i64 um, .int .i64 dk, .int .i64 dw, .int .i64 dd, .int .i64 asec, .int .i64 ab] ∧
      (Lit.int .i64 off).wf = true ∧ (Lit.int .i64 kind).wf = true ∧ (Lit.int .i64 save).wf = true ∧ set.size ≤ maxLen ∧ fmt.size ≤ maxLen := by
  match cs, hlen with
  | [c0, c1, c2, c3, c4, c5, c6, c7, c8, c9, c10, c11, c12], _ =>
    obtain ⟨n0, e0, w0⟩ := leaf_int Tryd.underlying47 h 0 2 0 .i64 (by kernel_rfl) Tryd.underlying2
    obtain ⟨n1, e1, w1⟩ := leaf_int Tryd.underlying47 h 1 3 1 .i64 (by kernel_rfl) Tryd.underlying3
    obtain ⟨n2, e2, w2⟩ := leaf_int Tryd.underlying47 h 2 2 2 .i64 (by kernel_rfl) Tryd.underlying2
    obtain ⟨s3, e3, w3⟩ := leaf_str Tryd.underlying47 h 3 9 3 (by kernel_rfl) Tryd.underlying9
    obtain ⟨s4, e4, w4⟩ := leaf_str Tryd.underlying47 h 4 9 4 (by kernel_rfl) Tryd.underlying9
    obtain ⟨m, y, hu⟩ := field_of Tryd.underlying47 h 5 45 5 8 (by kernel_rfl)
    obtain ⟨b5, e5⟩ := leaf_bool Tryd.underlying45 hu 0 4 0 (by kernel_rfl) Tryd.underlying4
    obtain ⟨n6, e6, _⟩ := leaf_int Tryd.underlying45 hu 1 3 1 .i64 (by kernel_rfl) Tryd.underlying3
    obtain ⟨n7, e7, _⟩ := leaf_int Tryd.underlying45 hu 2 3 2 .i64 (by kernel_rfl) Tryd.underlying3
    obtain ⟨m', y', hd⟩ := field_of Tryd.underlying45 hu 3 41 3 3 (by kernel_rfl)
    obtain ⟨n8, e8, _⟩ := leaf_int Tryd.underlying41 hd 0 3 0 .i64 (by kernel_rfl) Tryd.underlying3
    obtain ⟨n9, e9, _⟩ := leaf_int Tryd.underlying41 hd 1 3 1 .i64 (by kernel_rfl) Tryd.underlying3
    obtain ⟨n10, e10, _⟩ := leaf_int Tryd.underlying41 hd 2 3 2 .i64 (by kernel_rfl) Tryd.underlying3
    obtain ⟨m'', y'', hc⟩ := field_of Tryd.underlying45 hu 4 43 6 2 (by kernel_rfl)
    obtain ⟨n11, e11, _⟩ := leaf_int Tryd.underlying43 hc 0 2 0 .i64 (by kernel_rfl) Tryd.underlying2
    obtain ⟨n12, e12, _⟩ := leaf_int Tryd.underlying43 hc 1 3 1 .i64 (by kernel_rfl) Tryd.underlying3
    simp only [List.drop_succ_cons, List.drop_zero, List.take_succ_cons, List.take_zero, List.cons.injEq, and_true] at e0 e1 e2 e3 e4 e5 e6 e7 e8 e9 e10 e11 e12
    subst e0 e1 e2 e3 e4 e5 e6 e7 e8 e9 e10 e11 e12
    exact ⟨n0, n1, n2, s3, s4, b5, n6, n7, n8, n9, n10, n11, n12, rfl, w0, w1, w2, w3, w4⟩
end
end Go.Proofs.YtlideagcmhlkeaaDoor
