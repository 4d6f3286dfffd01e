/- Texts of one proof, one behind the other: RinvB; Grow30; One30; Store30b; Copy14; Sam14d; Turns30. -/
import Derived.Test.YtlideagcmhlkeaaDoorT4
import Derived.BigRegion
import Derived.IntWalk

/- The law on regions that draw their order (Rinv), with one operation that parts the region: what holds ahead of it and behind it may differ. No function of the program. -/
namespace Go.Proofs.YtlideagcmhlkeaaDoor
open Go
set_option linter.unusedVariables false

section
variable {P : Program} {ops : Array Oper} {Q : Exit → Act → World → Prop}
/-- THE LAW with one operation (q) that parts the region in two: what holds ahead of it and behind it may differ. Each operation by itself, behind those that must stand ahead of it. fr: the frame by the slots that the region makes; val: the values known ahead; X: what the others leave, by the slots Kx; G: what a step may do to the world. -/
theorem wp_region_invB {id : Nat} {a : Act} {w : World} (fr : (Nat → Value) → Act) (y0 : Nat → Value) (val : Nat → Option Value) (X : Nat → (Nat → Value) → World → Prop) (Kx : Nat → List Nat) (q : Nat) (G : Bool → World → World → Prop) (S : Bool → World → Prop)
    (hm : P.follows .mixedOrders = true) (ha : a = fr y0) (hS : S false w.drew)
    (hlt : ∀ i, i < ops.size → ∀ d ∈ rdeps ops i, d < i)
    (hput : ∀ i d, i < ops.size → rdst ops i = some d → ∀ y v, (fr y).put (some d) v = fr (upd y (some d) v))
    (hloc : ∀ j, j < ops.size → val j = none → ∀ y y' w, (∀ k ∈ Kx j, y k = y' k) → X j y w → X j y' w)
    (hmono : ∀ j, j < ops.size → val j = none → (∃ i, i < ops.size ∧ i ≠ j ∧ i ∉ rdeps ops j) → ∀ b, (j = q → b = true) → ∀ y w w', G b w w' → X j y w → X j y w')
    (hap : ∀ i j, i < ops.size → j < ops.size → i ≠ j → i ∉ rdeps ops j → ∀ d, rdst ops i = some d → (rdst ops j ≠ some d) ∧ (val j = none → d ∉ Kx j))
    (hstep : ∀ i, i < ops.size → ∀ o, ops[i]? = some o → ∀ y w b, ((i = q ∨ i ∈ rdeps ops q → b = false) ∧ (q ∈ rdeps ops i → b = true)) → S b w → (∀ d ∈ rdeps ops i, Left17 ops val X d y w) →
      ∀ K' : Act → World → Prop, Shut (∀ v a' w', a' = (fr y).put o.dst v → G b w w' → S (b || decide (i = q)) w' → (val i = some v ∨ (val i = none ∧ X i (upd y o.dst v) w')) → K' a' w') →
        if Region.wanted o (yielded ops (fr y).tmps) = true then Oper.wp P o (fr y) w K' Q else K' ((fr y).put o.dst undef) w)
    (hdone : ∀ y w, S (decide (q < ops.size)) w → (∀ j, j < ops.size → Left17 ops val X j y w) → Q .normal (fr y) w) : (Code.region id ops true).wp P Q a w := by
  refine wp_region_any hm ?_
  refine wpAny_inv (fun listed a w => listed.size = ops.size ∧ ∃ y, a = fr y ∧ S (listed.getD q false) w ∧ (∀ j, listed.getD j false = true → j < ops.size ∧ Left17 ops val X j y w) ∧ ∀ j, listed.getD j false = true → ∀ d ∈ rdeps ops j, listed.getD d false = true) ?_ ?_ _ _ _ _ ?_ ?_
  · rintro listed a w i ⟨hsz, y, rfl, hSw, hl, hcl⟩ hi
    obtain ⟨h1, h2, h3⟩ := ready_spec hi
    have ho : ops[i]? = some (ops[i]'h1) := Array.getElem?_eq_getElem h1
    refine wpOp_step ho fun K' hK => ?_
    have hfl : i = q ∨ i ∈ rdeps ops q → listed.getD q false = false := by
      rintro (e | e)
      · subst e
        rw [Array.getD_eq_getD_getElem?] at h2 ⊢
        cases e2 : listed[i]? with
        | none => rfl
        | some b => rw [e2] at h2; exact h2
      · cases hb : listed.getD q false with
        | false => rfl
        | true =>
          have := hcl q hb i e
          rw [Array.getD_eq_getD_getElem?] at this h2
          cases e2 : listed[i]? with
          | none => rw [e2] at this; cases this
          | some b => rw [e2] at this h2; simp at this h2; rw [this] at h2; cases h2
    refine hstep i h1 _ ho y w _ ⟨hfl, fun e => h3 q e⟩ hSw (fun d hd => (hl d (h3 d hd)).2) K' ?_
    intro v a' w' ha' hG hS' hnew
    have hflag : (listed.setIfInBounds i true).getD q false = (listed.getD q false || decide (i = q)) := by
      rw [Array.getD_eq_getD_getElem?, Array.getElem?_setIfInBounds]
      by_cases e : i = q
      · subst e
        rw [if_pos rfl, if_pos (by omega), decide_eq_true rfl, Bool.or_true]
        rfl
      · rw [if_neg e, decide_eq_false e, Bool.or_false, Array.getD_eq_getD_getElem?]
    refine hK _ _ ⟨by rw [Array.size_setIfInBounds]; exact hsz, upd y (ops[i]'h1).dst v, ?_, by rw [hflag]; exact hS', ?_, ?_⟩
    · rw [ha']
      cases hd : (ops[i]'h1).dst with
      | none => rfl
      | some d => exact hput i d h1 (by unfold rdst; rw [ho]; exact hd) y v
    · intro j hj
      by_cases hij : j = i
      · subst hij
        refine ⟨h1, ?_⟩
        unfold Left17
        rcases hnew with hv | ⟨hv, hx⟩
        · rw [hv]
          intro d hd
          have hd' : (ops[j]'h1).dst = some d := by unfold rdst at hd; rw [ho] at hd; exact hd
          rw [hd']
          show (if d = d then v else y d) = v
          rw [if_pos rfl]
        · rw [hv]; exact hx
      · have hj' : listed.getD j false = true := by
          rw [Array.getD_eq_getD_getElem?, Array.getElem?_setIfInBounds, if_neg (fun q => hij q.symm)] at hj
          rw [Array.getD_eq_getD_getElem?]; exact hj
        obtain ⟨hjn, hf⟩ := hl j hj'
        have hni : i ∉ rdeps ops j := fun q' => by
          have := hcl j hj' i q'
          rw [Array.getD_eq_getD_getElem?] at this h2
          cases e : listed[i]? with
          | none => rw [e] at this; cases this
          | some b => rw [e] at this h2; simp at this h2; rw [this] at h2; cases h2
        refine ⟨hjn, ?_⟩
        cases hd : (ops[i]'h1).dst with
        | none =>
          unfold Left17 at hf ⊢
          cases hv : val j with
          | some u => rw [hv] at hf; exact hf
          | none => rw [hv] at hf; exact hmono j hjn hv ⟨i, h1, fun q => hij q.symm, hni⟩ _ (fun e => by rw [← e]; exact hj') y w w' hG hf
        | some d =>
          obtain ⟨a1, a2⟩ := hap i j h1 hjn (fun q => hij q.symm) hni d (by unfold rdst; rw [ho]; exact hd)
          unfold Left17 at hf ⊢
          cases hv : val j with
          | some u =>
            rw [hv] at hf
            intro d' hd'
            have hne : d' ≠ d := fun q => a1 (by rw [hd', q])
            show (if d' = d then v else y d') = u
            rw [if_neg hne]; exact hf d' hd'
          | none =>
            rw [hv] at hf
            refine hloc j hjn hv y _ w' (fun k hk => ?_) (hmono j hjn hv ⟨i, h1, fun q => hij q.symm, hni⟩ _ (fun e => by rw [← e]; exact hj') y w w' hG hf)
            have hne : k ≠ d := fun q => a2 hv (by rw [← q]; exact hk)
            show y k = if k = d then v else y k
            rw [if_neg hne]
    · intro j hj d hd
      have key : ∀ k, listed.getD k false = true → (listed.setIfInBounds i true).getD k false = true := fun k hk => by
        rw [Array.getD_eq_getD_getElem?] at hk ⊢
        rw [Array.getElem?_setIfInBounds]
        split
        · split
          · rfl
          · rename_i q1 q2; subst q1; rw [Array.getElem?_eq_none (by omega)] at hk; cases hk
        · exact hk
      by_cases hij : j = i
      · subst hij; exact key d (h3 d hd)
      · have hj' : listed.getD j false = true := by
          rw [Array.getD_eq_getD_getElem?, Array.getElem?_setIfInBounds, if_neg (fun q => hij q.symm)] at hj
          rw [Array.getD_eq_getD_getElem?]; exact hj
        exact key d (hcl j hj' d hd)
  · rintro listed a w ⟨hsz, y, rfl, hSw, hl, _⟩ hr
    refine hdone y w ?_ fun j hj => (hl j (all_listed hsz hlt hr j hj)).2
    by_cases hq : q < ops.size
    · rw [all_listed hsz hlt hr q hq] at hSw
      rw [decide_eq_true hq]
      exact hSw
    · rw [Array.getD_eq_getD_getElem?, Array.getElem?_eq_none (by omega)] at hSw
      rw [decide_eq_false hq]
      exact hSw
  · unfold unl
    rw [Array.toList_replicate]
    simp
  · refine ⟨Array.size_replicate, y0, ha, ?_, fun j hj => ?_, fun j hj => ?_⟩
    · have : (Array.replicate ops.size false).getD q false = false := by
        rw [Array.getD_eq_getD_getElem?, Array.getElem?_replicate]
        split <;> rfl
      rw [this]
      exact hS
    all_goals
      rw [Array.getD_eq_getD_getElem?, Array.getElem?_replicate] at hj
      split at hj <;> cases hj
/-- a step of the law: operation i alone -/
def StepOkB (P : Program) (ops : Array Oper) (Q : Exit → Act → World → Prop) (fr : (Nat → Value) → Act) (sh : List (Option Nat × List Nat)) (sp : Nat → Bool) (vals : List Value) (X : Nat → (Nat → Value) → World → Prop) (q : Nat) (G : Bool → World → World → Prop) (S : Bool → World → Prop) (i : Nat) (o : Oper) : Prop :=
  ∀ y w b, ((i = q ∨ (sdeps sh q).contains i = true → b = false) ∧ ((sdeps sh i).contains q = true → b = true)) → S b w → (∀ d, (sdeps sh i).contains d = true → LeftS sh (valOf sp vals) X d y w) →
    ∀ K' : Act → World → Prop, Shut (∀ v a' w', a' = (fr y).put o.dst v → G b w w' → S (b || decide (i = q)) w' → (valOf sp vals i = some v ∨ (valOf sp vals i = none ∧ X i (upd y o.dst v) w')) → K' a' w') →
      if Region.wanted o (yielded ops (fr y).tmps) = true then Oper.wp P o (fr y) w K' Q else K' ((fr y).put o.dst undef) w
def StepsOkB (P : Program) (ops : Array Oper) (Q : Exit → Act → World → Prop) (fr : (Nat → Value) → Act) (sh : List (Option Nat × List Nat)) (sp : Nat → Bool) (vals : List Value) (X : Nat → (Nat → Value) → World → Prop) (q : Nat) (G : Bool → World → World → Prop) (S : Bool → World → Prop) (i : Nat) (l : List Oper) : Prop :=
  ∀ k o, l[k]? = some o → StepOkB P ops Q fr sh sp vals X q G S (i + k) o
section
variable {fr : (Nat → Value) → Act} {sh : List (Option Nat × List Nat)} {sp : Nat → Bool} {vals : List Value} {X : Nat → (Nat → Value) → World → Prop} {q : Nat} {G : Bool → World → World → Prop} {S : Bool → World → Prop}
theorem StepsOkB.nil {i : Nat} : StepsOkB P ops Q fr sh sp vals X q G S i [] := fun k o h => by simp at h
theorem StepsOkB.cons {i : Nat} {o : Oper} {l : List Oper} (h : StepOkB P ops Q fr sh sp vals X q G S i o) (hl : StepsOkB P ops Q fr sh sp vals X q G S (i + 1) l) : StepsOkB P ops Q fr sh sp vals X q G S i (o :: l) := fun k o' ho => by
  cases k with
  | zero => rw [List.getElem?_cons_zero] at ho; injection ho with ho; subst ho; exact h
  | succ k =>
    rw [List.getElem?_cons_succ] at ho
    have := hl k o' ho
    rwa [show i + 1 + k = i + (k + 1) by omega] at this
/-- a step whose value is known ahead -/
theorem StepOkB.known {i : Nat} {o : Oper} (hi : sp i = false) (h : ∀ y w b, ((i = q ∨ (sdeps sh q).contains i = true → b = false) ∧ ((sdeps sh i).contains q = true → b = true)) → S b w → (∀ d, (sdeps sh i).contains d = true → LeftS sh (valOf sp vals) X d y w) →
    ∀ K' : Act → World → Prop, Shut (∀ a' w', a' = (fr y).put o.dst (vals.getD i undef) → G b w w' → S (b || decide (i = q)) w' → K' a' w') →
      if Region.wanted o (yielded ops (fr y).tmps) = true then Oper.wp P o (fr y) w K' Q else K' ((fr y).put o.dst undef) w) : StepOkB P ops Q fr sh sp vals X q G S i o :=
  fun y w b hb hS hd K' hK => h y w b hb hS hd K' fun a' w' ha hG hS' => hK _ a' w' ha hG hS' (.inl (by unfold valOf; rw [if_neg (by rw [hi]; decide)]))
/-- a step whose value is not known ahead -/
theorem StepOkB.other {i : Nat} {o : Oper} (hi : sp i = true) (h : ∀ y w b, ((i = q ∨ (sdeps sh q).contains i = true → b = false) ∧ ((sdeps sh i).contains q = true → b = true)) → S b w → (∀ d, (sdeps sh i).contains d = true → LeftS sh (valOf sp vals) X d y w) →
    ∀ K' : Act → World → Prop, Shut (∀ v a' w', a' = (fr y).put o.dst v → G b w w' → S (b || decide (i = q)) w' → X i (upd y o.dst v) w' → K' a' w') →
      if Region.wanted o (yielded ops (fr y).tmps) = true then Oper.wp P o (fr y) w K' Q else K' ((fr y).put o.dst undef) w) : StepOkB P ops Q fr sh sp vals X q G S i o :=
  fun y w b hb hS hd K' hK => h y w b hb hS hd K' fun v a' w' ha hG hS' hx => hK v a' w' ha hG hS' (.inr ⟨by unfold valOf; rw [if_pos hi], hx⟩)
end
/-- THE LAW with one operation that parts the region, by the shape -/
theorem wp_region_shapeB {id : Nat} {l : List Oper} {Q : Exit → Act → World → Prop} {a : Act} {w : World} (sh : List (Option Nat × List Nat)) (fr : (Nat → Value) → Act) (y0 : Nat → Value) (sp : Nat → Bool) (vals : List Value) (X : Nat → (Nat → Value) → World → Prop) (Kx : Nat → List Nat) (q : Nat) (G : Bool → World → World → Prop) (S : Bool → World → Prop)
    (hm : P.follows .mixedOrders = true) (hsh : shapeOf l = sh) (hok : shapeOk sh sp Kx = true) (ha : a = fr y0) (hS : S false w.drew)
    (hput : ∀ d ∈ sh.filterMap (·.1), ∀ y v, (fr y).put (some d) v = fr (upd y (some d) v))
    (hloc : ∀ j, sp j = true → ∀ y y' w, (∀ k ∈ Kx j, y k = y' k) → X j y w → X j y' w)
    (hmono : ∀ j, sp j = true → lastB sh j = false → ∀ b, (j = q → b = true) → ∀ y w w', G b w w' → X j y w → X j y w')
    (hstep : StepsOkB P l.toArray Q fr sh sp vals X q G S 0 l)
    (hdone : ∀ y w, S (decide (q < sh.length)) w → (∀ j, j < sh.length → LeftS sh (valOf sp vals) X j y w) → Q .normal (fr y) w) : (Code.region id l.toArray true).wp P Q a w := by
  have hlen : l.length = sh.length := by rw [← hsh]; unfold shapeOf; rw [List.length_map]
  have hsz : l.toArray.size = sh.length := by rw [List.size_toArray, hlen]
  have hsp : ∀ j, valOf sp vals j = none → sp j = true := fun j h => by
    unfold valOf at h; split at h
    · assumption
    · cases h
  have hok' := hok
  unfold shapeOk at hok'
  rw [List.all_eq_true] at hok'
  refine wp_region_invB fr y0 (valOf sp vals) X Kx q G S hm ha hS ?_ ?_ ?_ ?_ ?_ ?_ ?_
  · intro i hi d hd
    rw [hsz] at hi
    rw [rdeps_shape hsh] at hd
    have := hok' i (List.mem_range.2 hi)
    rw [Bool.and_eq_true, List.all_eq_true] at this
    exact of_decide_eq_true (this.1 d hd)
  · intro i d hi hd y v
    rw [rdst_shape hsh] at hd
    refine hput d (List.mem_filterMap.2 ⟨sh.getD i (none, []), ?_, hd⟩) y v
    rw [hsz] at hi
    rw [List.getD_eq_getElem?_getD, List.getElem?_eq_getElem hi]
    exact List.getElem_mem _
  · intro j _ hv; exact hloc j (hsp j hv)
  · intro j _ hv ⟨i, hi, hij, hni⟩
    refine hmono j (hsp j hv) ?_
    unfold lastB
    rw [List.all_eq_false]
    refine ⟨i, List.mem_range.2 (by rw [← hsz]; exact hi), ?_⟩
    rw [rdeps_shape hsh] at hni
    simp [hij, hni]
  · intro i j hi hj hij hni d hd
    rw [hsz] at hi hj
    rw [rdeps_shape hsh] at hni
    rw [rdst_shape hsh] at hd ⊢
    have := hok' i (List.mem_range.2 hi)
    rw [Bool.and_eq_true, List.all_eq_true, List.all_eq_true] at this
    have qq := this.2 j (List.mem_range.2 hj)
    rw [hd] at qq
    simp only [Bool.or_eq_true, beq_iff_eq, Bool.and_eq_true, bne_iff_ne, Bool.not_eq_true', List.contains_iff_mem] at qq
    rcases qq with (qq | qq) | ⟨q1, q2⟩
    · exact absurd qq hij
    · exact absurd qq hni
    · refine ⟨q1, fun hv hk => ?_⟩
      rcases q2 with q2 | q2
      · rw [hsp j hv] at q2; cases q2
      · rw [List.contains_iff_mem.2 hk] at q2; cases q2
  · intro i hi o ho y w b hb hSw hd K' hK
    have hs := hstep i o (by rw [List.getElem?_toArray] at ho; exact ho)
    rw [Nat.zero_add] at hs
    exact hs y w b ⟨fun e => hb.1 (e.imp (fun x => x) fun e => by rw [rdeps_shape hsh]; exact List.contains_iff_mem.1 e), fun e => hb.2 (by rw [rdeps_shape hsh]; exact List.contains_iff_mem.1 e)⟩ hSw (fun d hd' => LeftS.of hsh (hd d (by rw [rdeps_shape hsh]; exact List.contains_iff_mem.1 hd'))) K' hK
  · intro y w hSw h
    exact hdone y w (by rw [← hsz]; exact hSw) fun j hj => LeftS.of hsh (h j (by rw [hsz]; exact hj))

end
end Go.Proofs.YtlideagcmhlkeaaDoor

/- What the steps keep of a drawn region in which a row of one type grows. No function of the program. -/
namespace Go.Proofs.YtlideagcmhlkeaaDoor
open Go.RowKit
set_option linter.unusedVariables false

/-- what a step keeps: blocks stay as they are but for boxes of sources and, ahead of the part, rows of one type below N -/
structure GT (T : TypeId) (N : Nat) (b : Bool) (W W' : World) : Prop where
  far : ∀ (g : Nat) (e : TypeId) (cur : Array Value), e ≠ 32 → (e ≠ T ∨ N ≤ g ∨ b = true) → W.heap[g]? = some (.cells cur e (0, 0)) → W'.heap[g]? = some (.cells cur e (0, 0))
  own : ∀ g, (∃ a b c d, Blk W g 32 #[a, b, c, d]) → ∃ a b c d, Blk W' g 32 #[a, b, c, d]
theorem GT.gs {T : TypeId} {N : Nat} (b : Bool) {W W' : World} (h : GS W W') : GT T N b W W' := ⟨fun g e cur he _ hb => h.far g e cur he hb, h.own⟩
theorem GT.refl (T : TypeId) (N : Nat) (b : Bool) (W : World) : GT T N b W W := GT.gs b (GS.refl W)
theorem GT.below {T : TypeId} {N : Nat} (b : Bool) {W W' : World} (h : Below W.heap.size W W') : GT T N b W W' := GT.gs b (GS.below h)
theorem GT.row {T : TypeId} {N : Nat} {b : Bool} {α : Type} {W W' : World} {base : Nat} {e : TypeId} {m : Nat} {f : α → List Value} {A : Option Addr} {c : Nat} {L : List α} (hg : GT T N b W W') (he : e ≠ 32) (hz : e ≠ T) (h : RowOf W base e m f A c L) : RowOf W' base e m f A c L := by
  refine ⟨h.1, ?_⟩
  rcases h.2 with q | ⟨g, cap, cur, hv, hb, hh, hr⟩
  · exact .inl q
  · exact .inr ⟨g, cap, cur, hv, hb, hg.far g e cur he (.inl hz) hh, hr⟩
theorem GT.grown {T : TypeId} (hT : T ≠ 32) {N : Nat} {W W' : World} {α : Type} {m : Nat} {f : α → List Value} {b1 zc : Nat} {zA : Option Addr} {Y : List α} (hz : RowOf W b1 T m f zA zc Y) (hK : ∀ K, (Value.slice zA Y.length zc).ownBlock = some K → K < N) (hgr : W.grownBy W' (Value.slice zA Y.length zc).ownBlock) : GT T N false W W' := by
  refine ⟨fun g e cur he hh hb => (hgr.block g (Array.getElem?_eq_some_iff.1 hb).1 fun q => ?_).trans hb, fun g ⟨a, b, c, d, hb⟩ => ⟨a, b, c, d, (hgr.block g hb.lt fun q => ?_).trans hb⟩⟩
  · obtain ⟨cur', hc⟩ := block_of hz q.symm
    rw [hb] at hc
    injection hc with hc
    injection hc with _ hc _
    have := hK g q.symm
    rcases hh with h | h | h
    · exact h hc
    · omega
    · cases h
  · obtain ⟨cur', hc⟩ := block_of hz q.symm
    unfold Blk at hb
    rw [hb] at hc
    injection hc with hc
    injection hc with _ hc _
    exact hT hc.symm
end Go.Proofs.YtlideagcmhlkeaaDoor

/- The sources of the examples of chapter 30: one zone with an era, a set of rules with some saves. -/
namespace Go.Proofs.YtlideagcmhlkeaaDoor
open Go.RowKit Go.Lib
set_option linter.unusedVariables false
set_option linter.unusedSimpArgs false

/-- where the walk of one stands; b: the rule is appended -/
structure Eo (w W : World) (e : EV) (rA : Option Addr) (rc : Nat) (R : List RV) (b : Bool) (W0 : World) : Prop where
  res : Blk W (w.heap.size + 1) 32 #[.slice none 0 0, .slice none 0 0, .slice none 0 0, .slice none 0 0]
  ers : Blk W (w.heap.size + 1 + 1) 47 #[.int .i64 e.off, .int .i64 e.kind, .int .i64 e.save, .string e.set, .string e.fmt, .bool e.ui, .int .i64 e.uy, .int .i64 e.um, .int .i64 e.dk, .int .i64 e.dw, .int .i64 e.dd, .int .i64 e.asec, .int .i64 e.ab]
  zns : Blk W (w.heap.size + 1 + 1 + 1) 39 #[.string ⟨#[65]⟩, .slice (some ⟨w.heap.size + 1 + 1, 0, none⟩) 1 1]
  own : ∃ v, Blk W (w.heap.size + 1 + 1 + 1 + 1) 32 #[v, .slice (some ⟨w.heap.size + 1 + 1 + 1, 0, none⟩) 1 1, .slice none 0 0, .slice none 0 0] ∧ (b = false → v = .slice rA R.length rc)
  bel : Below w.heap.size w W
  le : W0.heap.size ≤ W.heap.size
  ahead : b = false → RowOf W (w.heap.size + 1 + 1 + 1 + 1 + 1) 83 11 RV.cells rA rc R ∧ Below W0.heap.size W0 W
theorem Eo.or {w W W0 : World} {e : EV} {rA : Option Addr} {rc : Nat} {R : List RV} {b x : Bool} (h : Eo w W e rA rc R b W0) : Eo w W e rA rc R (b || x) W0 :=
  ⟨h.res, h.ers, h.zns, by obtain ⟨v, h1, h2⟩ := h.own; exact ⟨v, h1, fun q => h2 (Bool.or_eq_false_iff.1 q).1⟩, h.bel, h.le, fun q => h.ahead (Bool.or_eq_false_iff.1 q).1⟩
theorem Eo.below {w W W' W0 : World} {e : EV} {rA : Option Addr} {rc : Nat} {R : List RV} {b : Bool} (h : Eo w W e rA rc R b W0) (hb : Below W.heap.size W W') : Eo w W' e rA rc R b W0 :=
  ⟨h.res.below hb h.res.lt, h.ers.below hb h.ers.lt, h.zns.below hb h.zns.lt, by obtain ⟨v, h1, h2⟩ := h.own; exact ⟨v, h1.below hb h1.lt, h2⟩, h.bel.trans (hb.mono h.bel.size), Nat.le_trans h.le hb.size, fun q => ⟨(h.ahead q).1.below hb, (h.ahead q).2.trans (hb.mono h.le)⟩⟩
theorem Eo.grown {w W W' W0 : World} {e : EV} {rA : Option Addr} {rc : Nat} {R : List RV} (h : Eo w W e rA rc R false W0) (hz : RowOf W (w.heap.size + 1 + 1 + 1 + 1 + 1) 83 11 RV.cells rA rc R) (hgr : W.grownBy W' (Value.slice rA R.length rc).ownBlock) : Eo w W' e rA rc R true W0 :=
  ⟨blk_grown h.res hz hgr (by omega), blk_grown h.ers hz hgr (by omega), blk_grown h.zns hz hgr (by omega), by obtain ⟨v, h1, h2⟩ := h.own; exact ⟨v, blk_grown h1 hz hgr (by omega), fun q => by cases q⟩, own_grown h.bel hz hgr h.bel.size (by omega), Nat.le_trans h.le hgr.size, fun q => by cases q⟩
theorem Eo.set1 {w W W0 : World} {e : EV} {rA : Option Addr} {rc : Nat} {R : List RV} (h : Eo w W e rA rc R true W0) {v : Value} (hv : Blk W (w.heap.size + 1 + 1 + 1 + 1) 32 #[v, .slice (some ⟨w.heap.size + 1 + 1 + 1, 0, none⟩) 1 1, .slice none 0 0, .slice none 0 0]) (u : Value) : Eo w (W.setCell ⟨w.heap.size + 1 + 1 + 1 + 1, 0, none⟩ u) e rA rc R true W0 :=
  ⟨h.res.far (by show _ ≠ w.heap.size + 1 + 1 + 1 + 1; omega) u, h.ers.far (by show _ ≠ w.heap.size + 1 + 1 + 1 + 1; omega) u, h.zns.far (by show _ ≠ w.heap.size + 1 + 1 + 1 + 1; omega) u, ⟨u, hv.set_ 0 u, fun q => by cases q⟩, h.bel.setCell (by show w.heap.size ≤ w.heap.size + 1 + 1 + 1 + 1; omega) u, by simpa using h.le, fun q => by cases q⟩
end Go.Proofs.YtlideagcmhlkeaaDoor

/- What the steps keep of the drawn region in which a zone is copied. No function of the program. -/
namespace Go.Proofs.YtlideagcmhlkeaaDoor
open Go.RowKit
set_option linter.unusedVariables false

/-- what a step keeps: blocks stay as they are but for boxes of sources and, ahead of the part, rows of zones below N -/
structure GZ (N : Nat) (b : Bool) (W W' : World) : Prop where
  far : ∀ (g : Nat) (e : TypeId) (cur : Array Value), e ≠ 32 → (e ≠ 39 ∨ N ≤ g ∨ b = true) → W.heap[g]? = some (.cells cur e (0, 0)) → W'.heap[g]? = some (.cells cur e (0, 0))
  own : ∀ g, (∃ a b c d, Blk W g 32 #[a, b, c, d]) → ∃ a b c d, Blk W' g 32 #[a, b, c, d]
theorem GZ.gs {N : Nat} (b : Bool) {W W' : World} (h : GS W W') : GZ N b W W' := ⟨fun g e cur he _ hb => h.far g e cur he hb, h.own⟩
theorem GZ.refl (N : Nat) (b : Bool) (W : World) : GZ N b W W := GZ.gs b (GS.refl W)
theorem GZ.below {N : Nat} (b : Bool) {W W' : World} (h : Below W.heap.size W W') : GZ N b W W' := GZ.gs b (GS.below h)
theorem GZ.row {N : Nat} {b : Bool} {α : Type} {W W' : World} {base : Nat} {e : TypeId} {m : Nat} {f : α → List Value} {A : Option Addr} {c : Nat} {L : List α} (hg : GZ N b W W') (he : e ≠ 32) (hz : e ≠ 39) (h : RowOf W base e m f A c L) : RowOf W' base e m f A c L := by
  refine ⟨h.1, ?_⟩
  rcases h.2 with q | ⟨g, cap, cur, hv, hb, hh, hr⟩
  · exact .inl q
  · exact .inr ⟨g, cap, cur, hv, hb, hg.far g e cur he (.inl hz) hh, hr⟩
theorem GZ.grown {N : Nat} {W W' : World} {b1 zc : Nat} {zA : Option Addr} {Y : List ZV} (hz : RowOf W b1 39 2 ZV.cells zA zc Y) (hK : ∀ K, (Value.slice zA Y.length zc).ownBlock = some K → K < N) (hgr : W.grownBy W' (Value.slice zA Y.length zc).ownBlock) : GZ N false W W' := by
  refine ⟨fun g e cur he hh hb => (hgr.block g (Array.getElem?_eq_some_iff.1 hb).1 fun q => ?_).trans hb, fun g ⟨a, b, c, d, hb⟩ => ⟨a, b, c, d, (hgr.block g hb.lt fun q => ?_).trans hb⟩⟩
  · obtain ⟨cur', hc⟩ := block_of hz q.symm
    rw [hb] at hc
    injection hc with hc
    injection hc with _ hc _
    have := hK g q.symm
    rcases hh with h | h | h
    · exact h hc
    · omega
    · cases h
  · obtain ⟨cur', hc⟩ := block_of hz q.symm
    unfold Blk at hb
    rw [hb] at hc
    injection hc with hc
    injection hc with _ hc _
    revert hc
    decide
/-- where the region stands; b: the zone is appended -/
structure Eb (w W : World) (s : SV) (G : EV → EV) (b1 g : Nat) (A1 : Option Addr) (c1 : Nat) (A2 : Option Addr) (c2 : Nat) (A3 : Option Addr) (c3 : Nat) (zA : Option Addr) (zc : Nat) (Y : List ZV) (k : Nat) (b : Bool) (W0 : World) : Prop where
  src : Blk W w.heap.size 32 #[.slice s.rA s.rules.length s.rc, .slice s.zA s.zones.length s.zc, .slice s.kA s.links.length s.kc, .slice s.hA s.shifts.length s.hc]
  res : Blk W (w.heap.size + 1) 32 #[.slice none 0 0, .slice none 0 0, .slice none 0 0, .slice none 0 0]
  rules : RowOf W (w.heap.size + 2) 83 11 RV.cells A1 c1 s.rules
  links : RowOf W (w.heap.size + 2) 94 2 KV.cells A2 c2 s.links
  shifts : RowOf W (w.heap.size + 2) 9 1 (fun b : ByteArray => [Value.string b]) A3 c3 s.shifts
  zin : ZonesIn W b1 ((s.zones.map (mapE G)).take k) Y
  bel : Below w.heap.size w W
  le : W0.heap.size ≤ W.heap.size
  own : ∃ v, Blk W g 32 #[.slice A1 s.rules.length c1, v, .slice A2 s.links.length c2, .slice A3 s.shifts.length c3] ∧ (b = false → v = .slice zA Y.length zc)
  ahead : b = false → RowOf W b1 39 2 ZV.cells zA zc Y ∧ Below W0.heap.size W0 W
theorem Eb.or {w W W0 : World} {s : SV} {G : EV → EV} {b1 g c1 c2 c3 zc k : Nat} {A1 A2 A3 zA : Option Addr} {Y : List ZV} {b : Bool} {x : Bool} (h : Eb w W s G b1 g A1 c1 A2 c2 A3 c3 zA zc Y k b W0) : Eb w W s G b1 g A1 c1 A2 c2 A3 c3 zA zc Y k (b || x) W0 :=
  ⟨h.src, h.res, h.rules, h.links, h.shifts, h.zin, h.bel, h.le, by obtain ⟨v, h1, h2⟩ := h.own; exact ⟨v, h1, fun q => h2 (Bool.or_eq_false_iff.1 q).1⟩, fun q => h.ahead (Bool.or_eq_false_iff.1 q).1⟩
theorem Eb.below {w W W' W0 : World} {s : SV} {G : EV → EV} {b1 g c1 c2 c3 zc k : Nat} {A1 A2 A3 zA : Option Addr} {Y : List ZV} {b : Bool} (h : Eb w W s G b1 g A1 c1 A2 c2 A3 c3 zA zc Y k b W0) (hb : Below W.heap.size W W') : Eb w W' s G b1 g A1 c1 A2 c2 A3 c3 zA zc Y k b W0 :=
  ⟨h.src.below hb h.src.lt, h.res.below hb h.res.lt, h.rules.below hb, h.links.below hb, h.shifts.below hb, h.zin.below hb, h.bel.trans (hb.mono h.bel.size), Nat.le_trans h.le hb.size, by obtain ⟨v, h1, h2⟩ := h.own; exact ⟨v, h1.below hb h1.lt, h2⟩, fun q => ⟨(h.ahead q).1.below hb, (h.ahead q).2.trans (hb.mono h.le)⟩⟩
theorem Eb.grown {w W W' W0 : World} {s : SV} {G : EV → EV} {b1 g c1 c2 c3 zc k : Nat} {A1 A2 A3 zA : Option Addr} {Y : List ZV} (h : Eb w W s G b1 g A1 c1 A2 c2 A3 c3 zA zc Y k false W0) (hz : RowOf W b1 39 2 ZV.cells zA zc Y) (hgr : W.grownBy W' (Value.slice zA Y.length zc).ownBlock) (hl : w.heap.size + 2 ≤ g ∧ g < b1) : Eb w W' s G b1 g A1 c1 A2 c2 A3 c3 zA zc Y k true W0 :=
  ⟨blk_grown h.src hz hgr (by omega), blk_grown h.res hz hgr (by omega), row_other h.rules hz (by decide) hgr, row_other h.links hz (by decide) hgr, row_other h.shifts hz (by decide) hgr, h.zin.other hz (by decide) hgr, own_grown h.bel hz hgr h.bel.size (by omega), Nat.le_trans h.le hgr.size, by obtain ⟨v, h1, h2⟩ := h.own; exact ⟨v, blk_grown h1 hz hgr hl.2, fun q => by cases q⟩, fun q => by cases q⟩
theorem Eb.set1 {w W W0 : World} {s : SV} {G : EV → EV} {b1 g c1 c2 c3 zc k : Nat} {A1 A2 A3 zA : Option Addr} {Y : List ZV} (h : Eb w W s G b1 g A1 c1 A2 c2 A3 c3 zA zc Y k true W0) {v : Value} (hv : Blk W g 32 #[.slice A1 s.rules.length c1, v, .slice A2 s.links.length c2, .slice A3 s.shifts.length c3]) (u : Value) (hl : w.heap.size + 2 ≤ g ∧ g < b1) : Eb w (W.setCell ⟨g, 1, none⟩ u) s G b1 g A1 c1 A2 c2 A3 c3 zA zc Y k true W0 := by
  have q := GS.set_ hv 1 u
  exact ⟨h.src.far (by show _ ≠ g; omega) u, h.res.far (by show _ ≠ g; omega) u, q.row (by decide) h.rules, q.row (by decide) h.links, q.row (by decide) h.shifts, q.zones h.zin, h.bel.setCell (by show w.heap.size ≤ g; omega) u, by simpa using h.le, ⟨u, hv.set_ 1 u, fun q => by cases q⟩, fun q => by cases q⟩
end Go.Proofs.YtlideagcmhlkeaaDoor

/- The reference's copy of a source (chapter 14): the same values in rows of its own. -/
namespace Go.Proofs.YtlideagcmhlkeaaDoor
open Go.RowKit Go.Lib
set_option linter.unusedVariables false
set_option linter.unusedSimpArgs false

end Go.Proofs.YtlideagcmhlkeaaDoor

/- The walk of Same (the reference of chapter 14). -/
namespace Go.Proofs.YtlideagcmhlkeaaDoor
open Go.RowKit Go.Lib
set_option linter.unusedVariables false
set_option linter.unusedSimpArgs false
attribute [local go_sem high] neq_era neq_rule neq_link

/-- the boxes of Same -/
structure Box14 (w W : World) (a b : SV) : Prop where
  one : Blk W w.heap.size 32 #[.slice a.rA a.rules.length a.rc, .slice a.zA a.zones.length a.zc, .slice a.kA a.links.length a.kc, .slice a.hA a.shifts.length a.hc]
  two : Blk W (w.heap.size + 1) 32 #[.slice b.rA b.rules.length b.rc, .slice b.zA b.zones.length b.zc, .slice b.kA b.links.length b.kc, .slice b.hA b.shifts.length b.hc]
  bel : Below w.heap.size w W
theorem Box14.below {w W W' : World} {a b : SV} (h : Box14 w W a b) (hb : Below W.heap.size W W') : Box14 w W' a b := ⟨h.one.below hb h.one.lt, h.two.below hb h.two.lt, h.bel.trans (hb.mono h.bel.size)⟩
theorem box14_new (w : World) (a b : SV) : Box14 w ((w.alloc (.cells #[.slice a.rA a.rules.length a.rc, .slice a.zA a.zones.length a.zc, .slice a.kA a.links.length a.kc, .slice a.hA a.shifts.length a.hc] 32)).alloc (.cells #[.slice b.rA b.rules.length b.rc, .slice b.zA b.zones.length b.zc, .slice b.kA b.links.length b.kc, .slice b.hA b.shifts.length b.hc] 32)) a b :=
  ⟨(Blk.new w _ _).alloc _, Blk.newAt _ (w.heap.size + 1) (by simp) _ _, ((Below.refl _ w).alloc (Nat.le_refl _) _).alloc (by simp) _⟩
def big14 (s : SV) : Prop := s.rules.length ≤ 1000 ∧ s.zones.length ≤ 1000 ∧ s.links.length ≤ 1000 ∧ s.shifts.length ≤ 1000 ∧ ∀ z ∈ s.zones, z.eras.length ≤ 1000
end Go.Proofs.YtlideagcmhlkeaaDoor

/- The walk of turns (chapter 30): a function makes another FORMAT of the one era of a source, or fails. -/
namespace Go.Proofs.YtlideagcmhlkeaaDoor
open Go.RowKit Go.Lib
set_option linter.unusedVariables false
set_option linter.unusedSimpArgs false

theorem ErrIs.one {F : EV → ByteArray × Int} {Z : List ZV} {nm : ByteArray} {eA : Option Addr} {ec : Nat} {e : EV} (h : Z = [⟨nm, eA, ec, [e]⟩]) : ErrIs F Z (F e).2 := by
  subst h
  by_cases h0 : (F e).2 = 0
  · rw [h0]
    refine ErrIs.ok (i := 1) (fun a b z x hz hx hp => ?_) (by simp)
    have ha : a = 0 := by have := (List.getElem?_eq_some_iff.1 hz).1; simp at this; omega
    subst ha
    rw [List.getElem?_cons_zero] at hz
    injection hz with hz
    subst hz
    have hb : b = 0 := by have := (List.getElem?_eq_some_iff.1 hx).1; simp at this; omega
    subst hb
    injection hx with hx
    subst hx
    exact h0
  · exact ErrIs.bad (okTo30.zero _ _) (i := 0) (k := 0) (z := ⟨nm, eA, ec, [e]⟩) rfl rfl h0
theorem same_lens {t s : SV} (h : sSame14 t s) : t.rules.length = s.rules.length ∧ t.zones.length = s.zones.length ∧ t.links.length = s.links.length ∧ t.shifts.length = s.shifts.length := ⟨by rw [h.rules], h.zones.1, by rw [h.links], by rw [h.shifts]⟩
theorem same_eras {t s : SV} (h : sSame14 t s) : ∀ z ∈ t.zones, ∃ y ∈ s.zones, z.name = y.name ∧ z.eras = y.eras := fun z hz => by
  obtain ⟨i, hi⟩ := List.mem_iff_getElem?.1 hz
  have hl := (List.getElem?_eq_some_iff.1 hi).1
  obtain ⟨y, hy⟩ : ∃ y, s.zones[i]? = some y := ⟨_, List.getElem?_eq_getElem (by rw [← h.zones.1]; exact hl)⟩
  exact ⟨y, List.mem_of_getElem? hy, h.zones.2 i z y hl hi hy⟩
theorem Res30.one {F : EV → ByteArray × Int} {s t : SV} {m : Int} {nm : ByteArray} {eA : Option Addr} {ec : Nat} {e : EV} (h : Res30 F s t m) (hz : s.zones = [⟨nm, eA, ec, [e]⟩]) : m = (F e).2 := h.err.uniq (ErrIs.one hz)
end Go.Proofs.YtlideagcmhlkeaaDoor
