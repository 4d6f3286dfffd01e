/- Texts of one proof, one behind the other: RinvB; Grow30; One30; Store30b; Copy14; Sam14d; Turns30. -/
import Derived.Test.YtlideagcmhlkeaaDoorR4
import Derived.BigRegion
import Derived.IntWalk

/- The law on regions that draw their order (Rinv), with one operation that parts the region: what holds ahead of it and behind it may differ. No function of the program. -/
namespace Go.Proofs.YtlideagcmhlkeaaDoor
open Go
set_option linter.unusedVariables false

section
variable {P : Program} {ops : Array Oper} {Q : Exit → Act → World → Prop}
/-- THE LAW with one operation (q) that parts the region in two: what holds ahead of it and behind it may differ. Each operation by itself, behind those that must stand ahead of it. fr: the frame by the slots that the region makes; val: the values known ahead; X: what the others leave, by the slots Kx; G: what a step may do to the world. -/
theorem wp_region_invB {id : Nat} {a : Act} {w : World} (fr : (Nat → Value) → Act) (y0 : Nat → Value) (val : Nat → Option Value) (X : Nat → (Nat → Value) → World → Prop) (Kx : Nat → List Nat) (q : Nat) (G : Bool → World → World → Prop) (S : Bool → World → Prop)
    (hm : P.follows .mixedOrders = true) (ha : a = fr y0) (hS : S false w.drew)
    (hlt : ∀ i, i < ops.size → ∀ d ∈ rdeps ops i, d < i)
    (hput : ∀ i d, i < ops.size → rdst ops i = some d → ∀ y v, (fr y).put (some d) v = fr (upd y (some d) v))
    (hloc : ∀ j, j < ops.size → val j = none → ∀ y y' w, (∀ k ∈ Kx j, y k = y' k) → X j y w → X j y' w)
    (hmono : ∀ j, j < ops.size → val j = none → (∃ i, i < ops.size ∧ i ≠ j ∧ i ∉ rdeps ops j) → ∀ b, (j = q → b = true) → ∀ y w w', G b w w' → X j y w → X j y w')
    (hap : ∀ i j, i < ops.size → j < ops.size → i ≠ j → i ∉ rdeps ops j → ∀ d, rdst ops i = some d → (rdst ops j ≠ some d) ∧ (val j = none → d ∉ Kx j))
    (hstep : ∀ i, i < ops.size → ∀ o, ops[i]? = some o → ∀ y w b, ((i = q ∨ i ∈ rdeps ops q → b = false) ∧ (q ∈ rdeps ops i → b = true)) → S b w → (∀ d ∈ rdeps ops i, Left17 ops val X d y w) →
      ∀ K' : Act → World → Prop, Shut (∀ v a' w', a' = (fr y).put o.dst v → G b w w' → S (b || decide (i = q)) w' → (val i = some v ∨ (val i = none ∧ X i (upd y o.dst v) w')) → K' a' w') →
        if Region.wanted o (yielded ops (fr y).tmps) = true then Oper.wp P o (fr y) w K' Q else K' ((fr y).put o.dst undef) w)
    (hdone : ∀ y w, S (decide (q < ops.size)) w → (∀ j, j < ops.size → Left17 ops val X j y w) → Q .normal (fr y) w) : (Code.region id ops true).wp P Q a w := by
  refine wp_region_any hm ?_
  refine wpAny_inv (fun listed a w => listed.size = ops.size ∧ ∃ y, a = fr y ∧ S (listed.getD q false) w ∧ (∀ j, listed.getD j false = true → j < ops.size ∧ Left17 ops val X j y w) ∧ ∀ j, listed.getD j false = true → ∀ d ∈ rdeps ops j, listed.getD d false = true) ?_ ?_ _ _ _ _ ?_ ?_
  · rintro listed a w i ⟨hsz, y, rfl, hSw, hl, hcl⟩ hi
    obtain ⟨h1, h2, h3⟩ := ready_spec hi
    have ho : ops[i]? = some (ops[i]'h1) := Array.getElem?_eq_getElem h1
    refine wpOp_step ho fun K' hK => ?_
    have hfl : i = q ∨ i ∈ rdeps ops q → listed.getD q false = false := by
      rintro (e | e)
      · subst e
        rw [Array.getD_eq_getD_getElem?] at h2 ⊢
        cases e2 : listed[i]? with
        | none => rfl
        | some b => rw [e2] at h2; exact h2
      · cases hb : listed.getD q false with
        | false => rfl
        | true =>
          have := hcl q hb i e
          rw [Array.getD_eq_getD_getElem?] at this h2
          cases e2 : listed[i]? with
          | none => rw [e2] at this; cases this
          | some b => rw [e2] at this h2; simp at this h2; rw [this] at h2; cases h2
    refine hstep i h1 _ ho y w _ ⟨hfl, fun e => h3 q e⟩ hSw (fun d hd => (hl d (h3 d hd)).2) K' ?_
    intro v a' w' ha' hG hS' hnew
    have hflag : (listed.setIfInBounds i true).getD q false = (listed.getD q false || decide (i = q)) := by
      rw [Array.getD_eq_getD_getElem?, Array.getElem?_setIfInBounds]
      by_cases e : i = q
      · subst e
        rw [if_pos rfl, if_pos (by omega), decide_eq_true rfl, Bool.or_true]
        rfl
      · rw [if_neg e, decide_eq_false e, Bool.or_false, Array.getD_eq_getD_getElem?]
    refine hK _ _ ⟨by rw [Array.size_setIfInBounds]; exact hsz, upd y (ops[i]'h1).dst v, ?_, by rw [hflag]; exact hS', ?_, ?_⟩
    · rw [ha']
      cases hd : (ops[i]'h1).dst with
      | none => rfl
      | some d => exact hput i d h1 (by unfold rdst; rw [ho]; exact hd) y v
    · intro j hj
      by_cases hij : j = i
      · subst hij
        refine ⟨h1, ?_⟩
        unfold Left17
        rcases hnew with hv | ⟨hv, hx⟩
        · rw [hv]
          intro d hd
          have hd' : (ops[j]'h1).dst = some d := by unfold rdst at hd; rw [ho] at hd; exact hd
          rw [hd']
          show (if d = d then v else y d) = v
          rw [if_pos rfl]
        · rw [hv]; exact hx
      · have hj' : listed.getD j false = true := by
          rw [Array.getD_eq_getD_getElem?, Array.getElem?_setIfInBounds, if_neg (fun q => hij q.symm)] at hj
          rw [Array.getD_eq_getD_getElem?]; exact hj
        obtain ⟨hjn, hf⟩ := hl j hj'
        have hni : i ∉ rdeps ops j := fun q' => by
          have := hcl j hj' i q'
          rw [Array.getD_eq_getD_getElem?] at this h2
          cases e : listed[i]? with
          | none => rw [e] at this; cases this
          | some b => rw [e] at this h2; simp at this h2; rw [this] at h2; cases h2
        refine ⟨hjn, ?_⟩
        cases hd : (ops[i]'h1).dst with
        | none =>
          unfold Left17 at hf ⊢
          cases hv : val j with
          | some u => rw [hv] at hf; exact hf
          | none => rw [hv] at hf; exact hmono j hjn hv ⟨i, h1, fun q => hij q.symm, hni⟩ _ (fun e => by rw [← e]; exact hj') y w w' hG hf
        | some d =>
          obtain ⟨a1, a2⟩ := hap i j h1 hjn (fun q => hij q.symm) hni d (by unfold rdst; rw [ho]; exact hd)
          unfold Left17 at hf ⊢
          cases hv : val j with
          | some u =>
            rw [hv] at hf
            intro d' hd'
            have hne : d' ≠ d := fun q => a1 (by rw [hd', q])
            show (if d' = d then v else y d') = u
            rw [if_neg hne]; exact hf d' hd'
          | none =>
            rw [hv] at hf
            refine hloc j hjn hv y _ w' (fun k hk => ?_) (hmono j hjn hv ⟨i, h1, fun q => hij q.symm, hni⟩ _ (fun e => by rw [← e]; exact hj') y w w' hG hf)
            have hne : k ≠ d := fun q => a2 hv (by rw [← q]; exact hk)
            show y k = if k = d then v else y k
            rw [if_neg hne]
    · intro j hj d hd
      have key : ∀ k, listed.getD k false = true → (listed.setIfInBounds i true).getD k false = true := fun k hk => by
        rw [Array.getD_eq_getD_getElem?] at hk ⊢
        rw [Array.getElem?_setIfInBounds]
        split
        · split
          · rfl
          · rename_i q1 q2; subst q1; rw [Array.getElem?_eq_none (by omega)] at hk; cases hk
        · exact hk
      by_cases hij : j = i
      · subst hij; exact key d (h3 d hd)
      · have hj' : listed.getD j false = true := by
          rw [Array.getD_eq_getD_getElem?, Array.getElem?_setIfInBounds, if_neg (fun q => hij q.symm)] at hj
          rw [Array.getD_eq_getD_getElem?]; exact hj
        exact key d (hcl j hj' d hd)
  · rintro listed a w ⟨hsz, y, rfl, hSw, hl, _⟩ hr
    refine hdone y w ?_ fun j hj => (hl j (all_listed hsz hlt hr j hj)).2
    by_cases hq : q < ops.size
    · rw [all_listed hsz hlt hr q hq] at hSw
      rw [decide_eq_true hq]
      exact hSw
    · rw [Array.getD_eq_getD_getElem?, Array.getElem?_eq_none (by omega)] at hSw
      rw [decide_eq_false hq]
      exact hSw
  · unfold unl
    rw [Array.toList_replicate]
    simp
  · refine ⟨Array.size_replicate, y0, ha, ?_, fun j hj => ?_, fun j hj => ?_⟩
    · have : (Array.replicate ops.size false).getD q false = false := by
        rw [Array.getD_eq_getD_getElem?, Array.getElem?_replicate]
        split <;> rfl
      rw [this]
      exact hS
    all_goals
      rw [Array.getD_eq_getD_getElem?, Array.getElem?_replicate] at hj
      split at hj <;> cases hj
/-- a step of the law: operation i alone -/
def StepOkB (P : Program) (ops : Array Oper) (Q : Exit → Act → World → Prop) (fr : (Nat → Value) → Act) (sh : List (Option Nat × List Nat)) (sp : Nat → Bool) (vals : List Value) (X : Nat → (Nat → Value) → World → Prop) (q : Nat) (G : Bool → World → World → Prop) (S : Bool → World → Prop) (i : Nat) (o : Oper) : Prop :=
  ∀ y w b, ((i = q ∨ (sdeps sh q).contains i = true → b = false) ∧ ((sdeps sh i).contains q = true → b = true)) → S b w → (∀ d, (sdeps sh i).contains d = true → LeftS sh (valOf sp vals) X d y w) →
    ∀ K' : Act → World → Prop, Shut (∀ v a' w', a' = (fr y).put o.dst v → G b w w' → S (b || decide (i = q)) w' → (valOf sp vals i = some v ∨ (valOf sp vals i = none ∧ X i (upd y o.dst v) w')) → K' a' w') →
      if Region.wanted o (yielded ops (fr y).tmps) = true then Oper.wp P o (fr y) w K' Q else K' ((fr y).put o.dst undef) w
def StepsOkB (P : Program) (ops : Array Oper) (Q : Exit → Act → World → Prop) (fr : (Nat → Value) → Act) (sh : List (Option Nat × List Nat)) (sp : Nat → Bool) (vals : List Value) (X : Nat → (Nat → Value) → World → Prop) (q : Nat) (G : Bool → World → World → Prop) (S : Bool → World → Prop) (i : Nat) (l : List Oper) : Prop :=
  ∀ k o, l[k]? = some o → StepOkB P ops Q fr sh sp vals X q G S (i + k) o
section
variable {fr : (Nat → Value) → Act} {sh : List (Option Nat × List Nat)} {sp : Nat → Bool} {vals : List Value} {X : Nat → (Nat → Value) → World → Prop} {q : Nat} {G : Bool → World → World → Prop} {S : Bool → World → Prop}
theorem StepsOkB.nil {i : Nat} : StepsOkB P ops Q fr sh sp vals X q G S i [] := fun k o h => by simp at h
theorem StepsOkB.cons {i : Nat} {o : Oper} {l : List Oper} (h : StepOkB P ops Q fr sh sp vals X q G S i o) (hl : StepsOkB P ops Q fr sh sp vals X q G S (i + 1) l) : StepsOkB P ops Q fr sh sp vals X q G S i (o :: l) := fun k o' ho => by
  cases k with
  | zero => rw [List.getElem?_cons_zero] at ho; injection ho with ho; subst ho; exact h
  | succ k =>
    rw [List.getElem?_cons_succ] at ho
    have := hl k o' ho
    rwa [show i + 1 + k = i + (k + 1) by omega] at this
/-- a step whose value is known ahead -/
theorem StepOkB.known {i : Nat} {o : Oper} (hi : sp i = false) (h : ∀ y w b, ((i = q ∨ (sdeps sh q).contains i = true → b = false) ∧ ((sdeps sh i).contains q = true → b = true)) → S b w → (∀ d, (sdeps sh i).contains d = true → LeftS sh (valOf sp vals) X d y w) →
    ∀ K' : Act → World → Prop, Shut (∀ a' w', a' = (fr y).put o.dst (vals.getD i undef) → G b w w' → S (b || decide (i = q)) w' → K' a' w') →
      if Region.wanted o (yielded ops (fr y).tmps) = true then Oper.wp P o (fr y) w K' Q else K' ((fr y).put o.dst undef) w) : StepOkB P ops Q fr sh sp vals X q G S i o :=
  fun y w b hb hS hd K' hK => h y w b hb hS hd K' fun a' w' ha hG hS' => hK _ a' w' ha hG hS' (.inl (by unfold valOf; rw [if_neg (by rw [hi]; decide)]))
/-- a step whose value is not known ahead -/
theorem StepOkB.other {i : Nat} {o : Oper} (hi : sp i = true) (h : ∀ y w b, ((i = q ∨ (sdeps sh q).contains i = true → b = false) ∧ ((sdeps sh i).contains q = true → b = true)) → S b w → (∀ d, (sdeps sh i).contains d = true → LeftS sh (valOf sp vals) X d y w) →
    ∀ K' : Act → World → Prop, Shut (∀ v a' w', a' = (fr y).put o.dst v → G b w w' → S (b || decide (i = q)) w' → X i (upd y o.dst v) w' → K' a' w') →
      if Region.wanted o (yielded ops (fr y).tmps) = true then Oper.wp P o (fr y) w K' Q else K' ((fr y).put o.dst undef) w) : StepOkB P ops Q fr sh sp vals X q G S i o :=
  fun y w b hb hS hd K' hK => h y w b hb hS hd K' fun v a' w' ha hG hS' hx => hK v a' w' ha hG hS' (.inr ⟨by unfold valOf; rw [if_pos hi], hx⟩)
end
/-- THE LAW with one operation that parts the region, by the shape -/
theorem wp_region_shapeB {id : Nat} {l : List Oper} {Q : Exit → Act → World → Prop} {a : Act} {w : World} (sh : List (Option Nat × List Nat)) (fr : (Nat → Value) → Act) (y0 : Nat → Value) (sp : Nat → Bool) (vals : List Value) (X : Nat → (Nat → Value) → World → Prop) (Kx : Nat → List Nat) (q : Nat) (G : Bool → World → World → Prop) (S : Bool → World → Prop)
    (hm : P.follows .mixedOrders = true) (hsh : shapeOf l = sh) (hok : shapeOk sh sp Kx = true) (ha : a = fr y0) (hS : S false w.drew)
    (hput : ∀ d ∈ sh.filterMap (·.1), ∀ y v, (fr y).put (some d) v = fr (upd y (some d) v))
    (hloc : ∀ j, sp j = true → ∀ y y' w, (∀ k ∈ Kx j, y k = y' k) → X j y w → X j y' w)
    (hmono : ∀ j, sp j = true → lastB sh j = false → ∀ b, (j = q → b = true) → ∀ y w w', G b w w' → X j y w → X j y w')
    (hstep : StepsOkB P l.toArray Q fr sh sp vals X q G S 0 l)
    (hdone : ∀ y w, S (decide (q < sh.length)) w → (∀ j, j < sh.length → LeftS sh (valOf sp vals) X j y w) → Q .normal (fr y) w) : (Code.region id l.toArray true).wp P Q a w := by
  have hlen : l.length = sh.length := by rw [← hsh]; unfold shapeOf; rw [List.length_map]
  have hsz : l.toArray.size = sh.length := by rw [List.size_toArray, hlen]
  have hsp : ∀ j, valOf sp vals j = none → sp j = true := fun j h => by
    unfold valOf at h; split at h
    · assumption
    · cases h
  have hok' := hok
  unfold shapeOk at hok'
  rw [List.all_eq_true] at hok'
  refine wp_region_invB fr y0 (valOf sp vals) X Kx q G S hm ha hS ?_ ?_ ?_ ?_ ?_ ?_ ?_
  · intro i hi d hd
    rw [hsz] at hi
    rw [rdeps_shape hsh] at hd
    have := hok' i (List.mem_range.2 hi)
    rw [Bool.and_eq_true, List.all_eq_true] at this
    exact of_decide_eq_true (this.1 d hd)
  · intro i d hi hd y v
    rw [rdst_shape hsh] at hd
    refine hput d (List.mem_filterMap.2 ⟨sh.getD i (none, []), ?_, hd⟩) y v
    rw [hsz] at hi
    rw [List.getD_eq_getElem?_getD, List.getElem?_eq_getElem hi]
    exact List.getElem_mem _
  · intro j _ hv; exact hloc j (hsp j hv)
  · intro j _ hv ⟨i, hi, hij, hni⟩
    refine hmono j (hsp j hv) ?_
    unfold lastB
    rw [List.all_eq_false]
    refine ⟨i, List.mem_range.2 (by rw [← hsz]; exact hi), ?_⟩
    rw [rdeps_shape hsh] at hni
    simp [hij, hni]
  · intro i j hi hj hij hni d hd
    rw [hsz] at hi hj
    rw [rdeps_shape hsh] at hni
    rw [rdst_shape hsh] at hd ⊢
    have := hok' i (List.mem_range.2 hi)
    rw [Bool.and_eq_true, List.all_eq_true, List.all_eq_true] at this
    have qq := this.2 j (List.mem_range.2 hj)
    rw [hd] at qq
    simp only [Bool.or_eq_true, beq_iff_eq, Bool.and_eq_true, bne_iff_ne, Bool.not_eq_true', List.contains_iff_mem] at qq
    rcases qq with (qq | qq) | ⟨q1, q2⟩
    · exact absurd qq hij
    · exact absurd qq hni
    · refine ⟨q1, fun hv hk => ?_⟩
      rcases q2 with q2 | q2
      · rw [hsp j hv] at q2; cases q2
      · rw [List.contains_iff_mem.2 hk] at q2; cases q2
  · intro i hi o ho y w b hb hSw hd K' hK
    have hs := hstep i o (by rw [List.getElem?_toArray] at ho; exact ho)
    rw [Nat.zero_add] at hs
    exact hs y w b ⟨fun e => hb.1 (e.imp (fun x => x) fun e => by rw [rdeps_shape hsh]; exact List.contains_iff_mem.1 e), fun e => hb.2 (by rw [rdeps_shape hsh]; exact List.contains_iff_mem.1 e)⟩ hSw (fun d hd' => LeftS.of hsh (hd d (by rw [rdeps_shape hsh]; exact List.contains_iff_mem.1 hd'))) K' hK
  · intro y w hSw h
    exact hdone y w (by rw [← hsz]; exact hSw) fun j hj => LeftS.of hsh (h j (by rw [hsz]; exact hj))

end
end Go.Proofs.YtlideagcmhlkeaaDoor

/- What the steps keep of a drawn region in which a row of one type grows. No function of the program. -/
namespace Go.Proofs.YtlideagcmhlkeaaDoor
open Go.RowKit
set_option linter.unusedVariables false

/-- what a step keeps: blocks stay as they are but for boxes of sources and, ahead of the part, rows of one type below N -/
structure GT (T : TypeId) (N : Nat) (b : Bool) (W W' : World) : Prop where
  far : ∀ (g : Nat) (e : TypeId) (cur : Array Value), e ≠ 32 → (e ≠ T ∨ N ≤ g ∨ b = true) → W.heap[g]? = some (.cells cur e (0, 0)) → W'.heap[g]? = some (.cells cur e (0, 0))
  own : ∀ g, (∃ a b c d, Blk W g 32 #[a, b, c, d]) → ∃ a b c d, Blk W' g 32 #[a, b, c, d]
theorem GT.gs {T : TypeId} {N : Nat} (b : Bool) {W W' : World} (h : GS W W') : GT T N b W W' := ⟨fun g e cur he _ hb => h.far g e cur he hb, h.own⟩
theorem GT.refl (T : TypeId) (N : Nat) (b : Bool) (W : World) : GT T N b W W := GT.gs b (GS.refl W)
theorem GT.below {T : TypeId} {N : Nat} (b : Bool) {W W' : World} (h : Below W.heap.size W W') : GT T N b W W' := GT.gs b (GS.below h)
theorem GT.row {T : TypeId} {N : Nat} {b : Bool} {α : Type} {W W' : World} {base : Nat} {e : TypeId} {m : Nat} {f : α → List Value} {A : Option Addr} {c : Nat} {L : List α} (hg : GT T N b W W') (he : e ≠ 32) (hz : e ≠ T) (h : RowOf W base e m f A c L) : RowOf W' base e m f A c L := by
  refine ⟨h.1, ?_⟩
  rcases h.2 with q | ⟨g, cap, cur, hv, hb, hh, hr⟩
  · exact .inl q
  · exact .inr ⟨g, cap, cur, hv, hb, hg.far g e cur he (.inl hz) hh, hr⟩
theorem GT.rowT {T : TypeId} {N : Nat} {α : Type} {W W' : World} {base : Nat} {e : TypeId} {m : Nat} {f : α → List Value} {A : Option Addr} {c : Nat} {L : List α} (hg : GT T N true W W') (he : e ≠ 32) (h : RowOf W base e m f A c L) : RowOf W' base e m f A c L := by
  refine ⟨h.1, ?_⟩
  rcases h.2 with q | ⟨g, cap, cur, hv, hb, hh, hr⟩
  · exact .inl q
  · exact .inr ⟨g, cap, cur, hv, hb, hg.far g e cur he (.inr (.inr rfl)) hh, hr⟩
theorem GT.grown {T : TypeId} (hT : T ≠ 32) {N : Nat} {W W' : World} {α : Type} {m : Nat} {f : α → List Value} {b1 zc : Nat} {zA : Option Addr} {Y : List α} (hz : RowOf W b1 T m f zA zc Y) (hK : ∀ K, (Value.slice zA Y.length zc).ownBlock = some K → K < N) (hgr : W.grownBy W' (Value.slice zA Y.length zc).ownBlock) : GT T N false W W' := by
  refine ⟨fun g e cur he hh hb => (hgr.block g (Array.getElem?_eq_some_iff.1 hb).1 fun q => ?_).trans hb, fun g ⟨a, b, c, d, hb⟩ => ⟨a, b, c, d, (hgr.block g hb.lt fun q => ?_).trans hb⟩⟩
  · obtain ⟨cur', hc⟩ := block_of hz q.symm
    rw [hb] at hc
    injection hc with hc
    injection hc with _ hc _
    have := hK g q.symm
    rcases hh with h | h | h
    · exact h hc
    · omega
    · cases h
  · obtain ⟨cur', hc⟩ := block_of hz q.symm
    unfold Blk at hb
    rw [hb] at hc
    injection hc with hc
    injection hc with _ hc _
    exact hT hc.symm
end Go.Proofs.YtlideagcmhlkeaaDoor

/- The sources of the examples of chapter 30: one zone with an era, a set of rules with some saves. -/
namespace Go.Proofs.YtlideagcmhlkeaaDoor
open Go.RowKit Go.Lib
set_option linter.unusedVariables false
set_option linter.unusedSimpArgs false

/-- where the walk of one stands; b: the rule is appended -/
structure Eo (w W : World) (e : EV) (rA : Option Addr) (rc : Nat) (R : List RV) (b : Bool) (W0 : World) : Prop where
  res : Blk W (w.heap.size + 1) 32 #[.slice none 0 0, .slice none 0 0, .slice none 0 0, .slice none 0 0]
  ers : Blk W (w.heap.size + 1 + 1) 47 #[.int .i64 e.off, .int .i64 e.kind, .int .i64 e.save, .string e.set, .string e.fmt, .bool e.ui, .int .i64 e.uy, .int .i64 e.um, .int .i64 e.dk, .int .i64 e.dw, .int .i64 e.dd, .int .i64 e.asec, .int .i64 e.ab]
  zns : Blk W (w.heap.size + 1 + 1 + 1) 39 #[.string ⟨#[65]⟩, .slice (some ⟨w.heap.size + 1 + 1, 0, none⟩) 1 1]
  own : ∃ v, Blk W (w.heap.size + 1 + 1 + 1 + 1) 32 #[v, .slice (some ⟨w.heap.size + 1 + 1 + 1, 0, none⟩) 1 1, .slice none 0 0, .slice none 0 0] ∧ (b = false → v = .slice rA R.length rc)
  bel : Below w.heap.size w W
  le : W0.heap.size ≤ W.heap.size
  ahead : b = false → RowOf W (w.heap.size + 1 + 1 + 1 + 1 + 1) 83 11 RV.cells rA rc R ∧ Below W0.heap.size W0 W
theorem Eo.or {w W W0 : World} {e : EV} {rA : Option Addr} {rc : Nat} {R : List RV} {b x : Bool} (h : Eo w W e rA rc R b W0) : Eo w W e rA rc R (b || x) W0 :=
  ⟨h.res, h.ers, h.zns, by obtain ⟨v, h1, h2⟩ := h.own; exact ⟨v, h1, fun q => h2 (Bool.or_eq_false_iff.1 q).1⟩, h.bel, h.le, fun q => h.ahead (Bool.or_eq_false_iff.1 q).1⟩
theorem Eo.below {w W W' W0 : World} {e : EV} {rA : Option Addr} {rc : Nat} {R : List RV} {b : Bool} (h : Eo w W e rA rc R b W0) (hb : Below W.heap.size W W') : Eo w W' e rA rc R b W0 :=
  ⟨h.res.below hb h.res.lt, h.ers.below hb h.ers.lt, h.zns.below hb h.zns.lt, by obtain ⟨v, h1, h2⟩ := h.own; exact ⟨v, h1.below hb h1.lt, h2⟩, h.bel.trans (hb.mono h.bel.size), Nat.le_trans h.le hb.size, fun q => ⟨(h.ahead q).1.below hb, (h.ahead q).2.trans (hb.mono h.le)⟩⟩
theorem Eo.grown {w W W' W0 : World} {e : EV} {rA : Option Addr} {rc : Nat} {R : List RV} (h : Eo w W e rA rc R false W0) (hz : RowOf W (w.heap.size + 1 + 1 + 1 + 1 + 1) 83 11 RV.cells rA rc R) (hgr : W.grownBy W' (Value.slice rA R.length rc).ownBlock) : Eo w W' e rA rc R true W0 :=
  ⟨blk_grown h.res hz hgr (by omega), blk_grown h.ers hz hgr (by omega), blk_grown h.zns hz hgr (by omega), by obtain ⟨v, h1, h2⟩ := h.own; exact ⟨v, blk_grown h1 hz hgr (by omega), fun q => by cases q⟩, own_grown h.bel hz hgr h.bel.size (by omega), Nat.le_trans h.le hgr.size, fun q => by cases q⟩
theorem Eo.set1 {w W W0 : World} {e : EV} {rA : Option Addr} {rc : Nat} {R : List RV} (h : Eo w W e rA rc R true W0) {v : Value} (hv : Blk W (w.heap.size + 1 + 1 + 1 + 1) 32 #[v, .slice (some ⟨w.heap.size + 1 + 1 + 1, 0, none⟩) 1 1, .slice none 0 0, .slice none 0 0]) (u : Value) : Eo w (W.setCell ⟨w.heap.size + 1 + 1 + 1 + 1, 0, none⟩ u) e rA rc R true W0 :=
  ⟨h.res.far (by show _ ≠ w.heap.size + 1 + 1 + 1 + 1; omega) u, h.ers.far (by show _ ≠ w.heap.size + 1 + 1 + 1 + 1; omega) u, h.zns.far (by show _ ≠ w.heap.size + 1 + 1 + 1 + 1; omega) u, ⟨u, hv.set_ 0 u, fun q => by cases q⟩, h.bel.setCell (by show w.heap.size ≤ w.heap.size + 1 + 1 + 1 + 1; omega) u, by simpa using h.le, fun q => by cases q⟩
end Go.Proofs.YtlideagcmhlkeaaDoor

/- What the steps keep of the drawn region in which a zone is copied. No function of the program. -/
namespace Go.Proofs.YtlideagcmhlkeaaDoor
open Go.RowKit
set_option linter.unusedVariables false

/-- what a step keeps: blocks stay as they are but for boxes of sources and, ahead of the part, rows of zones below N -/
structure GZ (N : Nat) (b : Bool) (W W' : World) : Prop where
  far : ∀ (g : Nat) (e : TypeId) (cur : Array Value), e ≠ 32 → (e ≠ 39 ∨ N ≤ g ∨ b = true) → W.heap[g]? = some (.cells cur e (0, 0)) → W'.heap[g]? = some (.cells cur e (0, 0))
  own : ∀ g, (∃ a b c d, Blk W g 32 #[a, b, c, d]) → ∃ a b c d, Blk W' g 32 #[a, b, c, d]
theorem GZ.gs {N : Nat} (b : Bool) {W W' : World} (h : GS W W') : GZ N b W W' := ⟨fun g e cur he _ hb => h.far g e cur he hb, h.own⟩
theorem GZ.refl (N : Nat) (b : Bool) (W : World) : GZ N b W W := GZ.gs b (GS.refl W)
theorem GZ.below {N : Nat} (b : Bool) {W W' : World} (h : Below W.heap.size W W') : GZ N b W W' := GZ.gs b (GS.below h)
theorem GZ.row {N : Nat} {b : Bool} {α : Type} {W W' : World} {base : Nat} {e : TypeId} {m : Nat} {f : α → List Value} {A : Option Addr} {c : Nat} {L : List α} (hg : GZ N b W W') (he : e ≠ 32) (hz : e ≠ 39) (h : RowOf W base e m f A c L) : RowOf W' base e m f A c L := by
  refine ⟨h.1, ?_⟩
  rcases h.2 with q | ⟨g, cap, cur, hv, hb, hh, hr⟩
  · exact .inl q
  · exact .inr ⟨g, cap, cur, hv, hb, hg.far g e cur he (.inl hz) hh, hr⟩
theorem GZ.rowT {N : Nat} {α : Type} {W W' : World} {base : Nat} {e : TypeId} {m : Nat} {f : α → List Value} {A : Option Addr} {c : Nat} {L : List α} (hg : GZ N true W W') (he : e ≠ 32) (h : RowOf W base e m f A c L) : RowOf W' base e m f A c L := by
  refine ⟨h.1, ?_⟩
  rcases h.2 with q | ⟨g, cap, cur, hv, hb, hh, hr⟩
  · exact .inl q
  · exact .inr ⟨g, cap, cur, hv, hb, hg.far g e cur he (.inr (.inr rfl)) hh, hr⟩
theorem Lit0.passZ {N : Nat} {b : Bool} {W W' : World} {base : Nat} {e : TypeId} {m : Nat} {v : Value} (hg : GZ N b W W') (he : e ≠ 32) (hz : e ≠ 39) (h : Lit0 W base e m v) : Lit0 W' base e m v := by
  obtain ⟨B, h1, h2⟩ := h
  refine ⟨B, h1, h2.1, ?_⟩
  rcases h2.2 with q | ⟨g, cap, cur, hv, hb, hh, hr⟩
  · exact .inl q
  · exact .inr ⟨g, cap, cur, hv, hb, hg.far g e cur he (.inl hz) hh, hr⟩
theorem GZ.grown {N : Nat} {W W' : World} {b1 zc : Nat} {zA : Option Addr} {Y : List ZV} (hz : RowOf W b1 39 2 ZV.cells zA zc Y) (hK : ∀ K, (Value.slice zA Y.length zc).ownBlock = some K → K < N) (hgr : W.grownBy W' (Value.slice zA Y.length zc).ownBlock) : GZ N false W W' := by
  refine ⟨fun g e cur he hh hb => (hgr.block g (Array.getElem?_eq_some_iff.1 hb).1 fun q => ?_).trans hb, fun g ⟨a, b, c, d, hb⟩ => ⟨a, b, c, d, (hgr.block g hb.lt fun q => ?_).trans hb⟩⟩
  · obtain ⟨cur', hc⟩ := block_of hz q.symm
    rw [hb] at hc
    injection hc with hc
    injection hc with _ hc _
    have := hK g q.symm
    rcases hh with h | h | h
    · exact h hc
    · omega
    · cases h
  · obtain ⟨cur', hc⟩ := block_of hz q.symm
    unfold Blk at hb
    rw [hb] at hc
    injection hc with hc
    injection hc with _ hc _
    revert hc
    decide
theorem zrow_snoc {W : World} {b1 zc : Nat} {zA A : Option Addr} {c : Nat} {Y : List ZV} {nm : ByteArray} {E : List EV} (h : W.ownsRow b1 39 2 (.slice zA (Y.length + 1) zc) (Y.length + 1) (Y.flatMap ZV.cells ++ [.string nm, .slice A E.length c])) : RowOf W b1 39 2 ZV.cells zA zc (Y ++ [⟨nm, A, c, E⟩]) := by
  unfold RowOf
  rw [List.length_append, List.flatMap_append]
  have q : ([⟨nm, A, c, E⟩] : List ZV).flatMap ZV.cells = [.string nm, .slice A E.length c] := by simp [ZV.cells]
  rw [q]
  exact h
/-- where the region stands; b: the zone is appended -/
structure Eb (w W : World) (s : SV) (G : EV → EV) (b1 g : Nat) (A1 : Option Addr) (c1 : Nat) (A2 : Option Addr) (c2 : Nat) (A3 : Option Addr) (c3 : Nat) (zA : Option Addr) (zc : Nat) (Y : List ZV) (k : Nat) (b : Bool) (W0 : World) : Prop where
  src : Blk W w.heap.size 32 #[.slice s.rA s.rules.length s.rc, .slice s.zA s.zones.length s.zc, .slice s.kA s.links.length s.kc, .slice s.hA s.shifts.length s.hc]
  res : Blk W (w.heap.size + 1) 32 #[.slice none 0 0, .slice none 0 0, .slice none 0 0, .slice none 0 0]
  rules : RowOf W (w.heap.size + 2) 83 11 RV.cells A1 c1 s.rules
  links : RowOf W (w.heap.size + 2) 94 2 KV.cells A2 c2 s.links
  shifts : RowOf W (w.heap.size + 2) 9 1 (fun b : ByteArray => [Value.string b]) A3 c3 s.shifts
  zin : ZonesIn W b1 ((s.zones.map (mapE G)).take k) Y
  bel : Below w.heap.size w W
  le : W0.heap.size ≤ W.heap.size
  own : ∃ v, Blk W g 32 #[.slice A1 s.rules.length c1, v, .slice A2 s.links.length c2, .slice A3 s.shifts.length c3] ∧ (b = false → v = .slice zA Y.length zc)
  ahead : b = false → RowOf W b1 39 2 ZV.cells zA zc Y ∧ Below W0.heap.size W0 W
theorem Ea.toEb {w W W0 : World} {s : SV} {G : EV → EV} {b1 g c1 c2 c3 zc k : Nat} {A1 A2 A3 zA : Option Addr} {Y : List ZV} (h : Ea w W s G b1 g A1 c1 A2 c2 A3 c3 zA zc Y k) (hb : Below W0.heap.size W0 W) : Eb w W s G b1 g A1 c1 A2 c2 A3 c3 zA zc Y k false W0 :=
  ⟨h.src, h.res, h.rules, h.links, h.shifts, h.zin, h.bel, hb.size, ⟨_, h.own, fun _ => rfl⟩, fun _ => ⟨h.zrow, hb⟩⟩
theorem Eb.or {w W W0 : World} {s : SV} {G : EV → EV} {b1 g c1 c2 c3 zc k : Nat} {A1 A2 A3 zA : Option Addr} {Y : List ZV} {b : Bool} {x : Bool} (h : Eb w W s G b1 g A1 c1 A2 c2 A3 c3 zA zc Y k b W0) : Eb w W s G b1 g A1 c1 A2 c2 A3 c3 zA zc Y k (b || x) W0 :=
  ⟨h.src, h.res, h.rules, h.links, h.shifts, h.zin, h.bel, h.le, by obtain ⟨v, h1, h2⟩ := h.own; exact ⟨v, h1, fun q => h2 (Bool.or_eq_false_iff.1 q).1⟩, fun q => h.ahead (Bool.or_eq_false_iff.1 q).1⟩
theorem Eb.below {w W W' W0 : World} {s : SV} {G : EV → EV} {b1 g c1 c2 c3 zc k : Nat} {A1 A2 A3 zA : Option Addr} {Y : List ZV} {b : Bool} (h : Eb w W s G b1 g A1 c1 A2 c2 A3 c3 zA zc Y k b W0) (hb : Below W.heap.size W W') : Eb w W' s G b1 g A1 c1 A2 c2 A3 c3 zA zc Y k b W0 :=
  ⟨h.src.below hb h.src.lt, h.res.below hb h.res.lt, h.rules.below hb, h.links.below hb, h.shifts.below hb, h.zin.below hb, h.bel.trans (hb.mono h.bel.size), Nat.le_trans h.le hb.size, by obtain ⟨v, h1, h2⟩ := h.own; exact ⟨v, h1.below hb h1.lt, h2⟩, fun q => ⟨(h.ahead q).1.below hb, (h.ahead q).2.trans (hb.mono h.le)⟩⟩
theorem Eb.grown {w W W' W0 : World} {s : SV} {G : EV → EV} {b1 g c1 c2 c3 zc k : Nat} {A1 A2 A3 zA : Option Addr} {Y : List ZV} (h : Eb w W s G b1 g A1 c1 A2 c2 A3 c3 zA zc Y k false W0) (hz : RowOf W b1 39 2 ZV.cells zA zc Y) (hgr : W.grownBy W' (Value.slice zA Y.length zc).ownBlock) (hl : w.heap.size + 2 ≤ g ∧ g < b1) : Eb w W' s G b1 g A1 c1 A2 c2 A3 c3 zA zc Y k true W0 :=
  ⟨blk_grown h.src hz hgr (by omega), blk_grown h.res hz hgr (by omega), row_other h.rules hz (by decide) hgr, row_other h.links hz (by decide) hgr, row_other h.shifts hz (by decide) hgr, h.zin.other hz (by decide) hgr, own_grown h.bel hz hgr h.bel.size (by omega), Nat.le_trans h.le hgr.size, by obtain ⟨v, h1, h2⟩ := h.own; exact ⟨v, blk_grown h1 hz hgr hl.2, fun q => by cases q⟩, fun q => by cases q⟩
theorem Eb.set1 {w W W0 : World} {s : SV} {G : EV → EV} {b1 g c1 c2 c3 zc k : Nat} {A1 A2 A3 zA : Option Addr} {Y : List ZV} (h : Eb w W s G b1 g A1 c1 A2 c2 A3 c3 zA zc Y k true W0) {v : Value} (hv : Blk W g 32 #[.slice A1 s.rules.length c1, v, .slice A2 s.links.length c2, .slice A3 s.shifts.length c3]) (u : Value) (hl : w.heap.size + 2 ≤ g ∧ g < b1) : Eb w (W.setCell ⟨g, 1, none⟩ u) s G b1 g A1 c1 A2 c2 A3 c3 zA zc Y k true W0 := by
  have q := GS.set_ hv 1 u
  exact ⟨h.src.far (by show _ ≠ g; omega) u, h.res.far (by show _ ≠ g; omega) u, q.row (by decide) h.rules, q.row (by decide) h.links, q.row (by decide) h.shifts, q.zones h.zin, h.bel.setCell (by show w.heap.size ≤ g; omega) u, by simpa using h.le, ⟨u, hv.set_ 1 u, fun q => by cases q⟩, fun q => by cases q⟩
end Go.Proofs.YtlideagcmhlkeaaDoor

/- The reference's copy of a source (chapter 14): the same values in rows of its own. -/
namespace Go.Proofs.YtlideagcmhlkeaaDoor
open Go.RowKit Go.Lib
set_option linter.unusedVariables false
set_option linter.unusedSimpArgs false

set_option maxRecDepth 100000 in
set_option maxHeartbeats 16000000 in
theorem copy14 (s : SV) (w : World) (hS : SrcIn w s) (hf : Few30 s) :
    Calls Tryd.prog 28 #[.agg #[.slice s.rA s.rules.length s.rc, .slice s.zA s.zones.length s.zc, .slice s.kA s.links.length s.kc, .slice s.hA s.shifts.length s.hc]] w fun x w' => ∃ t : SV, x = .returned (.agg #[.slice t.rA t.rules.length t.rc, .slice t.zA t.zones.length t.zc, .slice t.kA t.links.length t.kc, .slice t.hA t.shifts.length t.hc]) ∧ CopyOf w' (w.heap.size + 2) s t ∧ Below w.heap.size w w' := by
  have HS := Lib.hid hS; have HFW := Lib.hid hf
  have hl1 := hf.lens.1; have hl2 := hf.lens.2.1; have hl3 := hf.lens.2.2.1; have hl4 := hf.lens.2.2.2
  clear hS hf
  have hb0 := ((Below.refl w.heap.size w).alloc (Nat.le_refl _) (.cells #[.slice s.rA s.rules.length s.rc, .slice s.zA s.zones.length s.zc, .slice s.kA s.links.length s.kc, .slice s.hA s.shifts.length s.hc] 32)).alloc (by simp) (.cells #[.slice none 0 0, .slice none 0 0, .slice none 0 0, .slice none 0 0] 32)
  have hx0 := (Blk.new w 32 #[.slice s.rA s.rules.length s.rc, .slice s.zA s.zones.length s.zc, .slice s.kA s.links.length s.kc, .slice s.hA s.shifts.length s.hc]).alloc (.cells #[.slice none 0 0, .slice none 0 0, .slice none 0 0, .slice none 0 0] 32)
  have hr0 := Blk.newAt (w.alloc (.cells #[.slice s.rA s.rules.length s.rc, .slice s.zA s.zones.length s.zc, .slice s.kA s.links.length s.kc, .slice s.hA s.shifts.length s.hc] 32)) (w.heap.size + 1) (by simp) 32 #[.slice none 0 0, .slice none 0 0, .slice none 0 0, .slice none 0 0]
  go_enter Tryd.func28, Tryd.ntmps28
  go_upto_region 1 with fail
  refine wp_region_shape [(some 5, []), (some 6, []), (some 7, [1]), (some 8, [0, 2]), (some 9, []), (some 10, []), (some 11, [5]), (some 12, [4, 6, 3]), (some 13, []), (some 14, []), (some 15, [9]), (some 16, [8, 10, 7]), (some 17, [3, 7, 11]), (some 3, []), (none, [13, 12, 11, 0, 1, 2, 3, 4, 5, 6, 7, 8, 9, 10, 11, 12, 13])] (fun y => { tmps := #[.agg #[.slice s.rA s.rules.length s.rc, .slice s.zA s.zones.length s.zc, .slice s.kA s.links.length s.kc, .slice s.hA s.shifts.length s.hc], .pointer (some ⟨w.heap.size, 0, none⟩), .pointer (some ⟨w.heap.size + 1, 0, none⟩), y 3, undef, y 5, y 6, y 7, y 8, y 9, y 10, y 11, y 12, y 13, y 14, y 15, y 16, y 17, undef, undef, undef, undef, undef, undef, undef, undef, undef, undef, undef, undef, undef, undef, undef, undef, undef, undef, undef, undef, undef, undef, undef, undef, undef, undef, undef, undef], defers := [] }) (fun _ => undef) (fun j => j == 0 || j == 3 || j == 4 || j == 7 || j == 8 || j == 11 || j == 12 || j == 13 || j == 14) [undef, .pointer (some ⟨w.heap.size, 0, none⟩), .slice s.rA s.rules.length s.rc, undef, undef, .pointer (some ⟨w.heap.size, 2, none⟩), .slice s.kA s.links.length s.kc, undef, undef, .pointer (some ⟨w.heap.size, 3, none⟩), .slice s.hA s.shifts.length s.hc, undef, undef, undef, undef] (fun j y W => match j with | 0 => Lit0 W (w.heap.size + 2) 83 11 (y 5) | 3 => ∃ A c, y 8 = .slice A s.rules.length c ∧ RowOf W (w.heap.size + 2) 83 11 RV.cells A c s.rules | 4 => Lit0 W (w.heap.size + 2) 94 2 (y 9) | 7 => ∃ A c, y 12 = .slice A s.links.length c ∧ RowOf W (w.heap.size + 2) 94 2 KV.cells A c s.links | 8 => Lit0 W (w.heap.size + 2) 9 1 (y 13) | 11 => ∃ A c, y 16 = .slice A s.shifts.length c ∧ RowOf W (w.heap.size + 2) 9 1 (fun b : ByteArray => [Value.string b]) A c s.shifts | 12 => ∃ A1 c1 A2 c2 A3 c3, y 17 = .agg #[.slice A1 s.rules.length c1, .slice none 0 0, .slice A2 s.links.length c2, .slice A3 s.shifts.length c3] ∧ RowOf W (w.heap.size + 2) 83 11 RV.cells A1 c1 s.rules ∧ RowOf W (w.heap.size + 2) 94 2 KV.cells A2 c2 s.links ∧ RowOf W (w.heap.size + 2) 9 1 (fun b : ByteArray => [Value.string b]) A3 c3 s.shifts | 13 => ∃ g, (y 3 = .pointer (some ⟨g, 0, none⟩) ∧ w.heap.size + 2 ≤ g) ∧ ∃ a b c d, Blk W g 32 #[a, b, c, d] | 14 => ∃ g A1 c1 A2 c2 A3 c3, (y 3 = .pointer (some ⟨g, 0, none⟩) ∧ w.heap.size + 2 ≤ g) ∧ Blk W g 32 #[.slice A1 s.rules.length c1, .slice none 0 0, .slice A2 s.links.length c2, .slice A3 s.shifts.length c3] ∧ RowOf W (w.heap.size + 2) 83 11 RV.cells A1 c1 s.rules ∧ RowOf W (w.heap.size + 2) 94 2 KV.cells A2 c2 s.links ∧ RowOf W (w.heap.size + 2) 9 1 (fun b : ByteArray => [Value.string b]) A3 c3 s.shifts | _ => True) (fun j => match j with | 0 => [5] | 3 => [8] | 4 => [9] | 7 => [12] | 8 => [13] | 11 => [16] | 12 => [17] | 13 => [3] | 14 => [3] | _ => []) (GS) (fun W => Below w.heap.size w W ∧ Blk W w.heap.size 32 #[.slice s.rA s.rules.length s.rc, .slice s.zA s.zones.length s.zc, .slice s.kA s.links.length s.kc, .slice s.hA s.shifts.length s.hc] ∧ Blk W (w.heap.size + 1) 32 #[.slice none 0 0, .slice none 0 0, .slice none 0 0, .slice none 0 0]) (by kernel_rfl) (by kernel_rfl) (by decide +kernel) rfl ⟨hb0.drew, hx0, hr0⟩ ?hput1 ?hloc1 ?hmono1 ?hstep1 ?hdone1
  case hput1 =>
    intro d hd y v
    simp only [List.filterMap_cons, List.filterMap_nil, List.mem_cons, List.not_mem_nil, or_false] at hd
    rcases hd with rfl | rfl | rfl | rfl | rfl | rfl | rfl | rfl | rfl | rfl | rfl | rfl | rfl | rfl
    all_goals rfl
  case hloc1 =>
    intro j hj y y' W hk hx
    have hj' : j = 0 ∨ j = 3 ∨ j = 4 ∨ j = 7 ∨ j = 8 ∨ j = 11 ∨ j = 12 ∨ j = 13 ∨ j = 14 := by simpa [or_assoc] using hj
    rcases hj' with rfl | rfl | rfl | rfl | rfl | rfl | rfl | rfl | rfl
    · simp only [List.forall_mem_cons, List.not_mem_nil, false_imp_iff, implies_true, and_true] at hk
      show _
      simpa only [hk] using hx
    · simp only [List.forall_mem_cons, List.not_mem_nil, false_imp_iff, implies_true, and_true] at hk
      show _
      simpa only [hk] using hx
    · simp only [List.forall_mem_cons, List.not_mem_nil, false_imp_iff, implies_true, and_true] at hk
      show _
      simpa only [hk] using hx
    · simp only [List.forall_mem_cons, List.not_mem_nil, false_imp_iff, implies_true, and_true] at hk
      show _
      simpa only [hk] using hx
    · simp only [List.forall_mem_cons, List.not_mem_nil, false_imp_iff, implies_true, and_true] at hk
      show _
      simpa only [hk] using hx
    · simp only [List.forall_mem_cons, List.not_mem_nil, false_imp_iff, implies_true, and_true] at hk
      show _
      simpa only [hk] using hx
    · simp only [List.forall_mem_cons, List.not_mem_nil, false_imp_iff, implies_true, and_true] at hk
      show _
      simpa only [hk] using hx
    · simp only [List.forall_mem_cons, List.not_mem_nil, false_imp_iff, implies_true, and_true] at hk
      show _
      simpa only [hk] using hx
    · simp only [List.forall_mem_cons, List.not_mem_nil, false_imp_iff, implies_true, and_true] at hk
      show _
      simpa only [hk] using hx
  case hmono1 =>
    intro j hj hlast y W W' hg hx
    have hj' : j = 0 ∨ j = 3 ∨ j = 4 ∨ j = 7 ∨ j = 8 ∨ j = 11 ∨ j = 12 ∨ j = 13 ∨ j = 14 := by simpa [or_assoc] using hj
    rcases hj' with rfl | rfl | rfl | rfl | rfl | rfl | rfl | rfl | rfl
    · exact Lit0.pass hg (by decide) hx
    · exact passR (p := fun A c => y 8 = .slice A s.rules.length c) hg (by decide) hx
    · exact Lit0.pass hg (by decide) hx
    · exact passR (p := fun A c => y 12 = .slice A s.links.length c) hg (by decide) hx
    · exact Lit0.pass hg (by decide) hx
    · exact passR (p := fun A c => y 16 = .slice A s.shifts.length c) hg (by decide) hx
    · obtain ⟨A1, c1, A2, c2, A3, c3, h1, h2, h3, h4⟩ := hx; exact ⟨A1, c1, A2, c2, A3, c3, h1, hg.row (by decide) h2, hg.row (by decide) h3, hg.row (by decide) h4⟩
    · exact passS (p := fun g => y 3 = .pointer (some ⟨g, 0, none⟩) ∧ w.heap.size + 2 ≤ g) hg hx
    · exact absurd hlast (by decide)
  case hdone1 =>
    intro yy W1 hS hd
    have x14 : (fun (y : Nat → Value) (W : World) => ∃ g A1 c1 A2 c2 A3 c3, (y 3 = .pointer (some ⟨g, 0, none⟩) ∧ w.heap.size + 2 ≤ g) ∧ Blk W g 32 #[.slice A1 s.rules.length c1, .slice none 0 0, .slice A2 s.links.length c2, .slice A3 s.shifts.length c3] ∧ RowOf W (w.heap.size + 2) 83 11 RV.cells A1 c1 s.rules ∧ RowOf W (w.heap.size + 2) 94 2 KV.cells A2 c2 s.links ∧ RowOf W (w.heap.size + 2) 9 1 (fun b : ByteArray => [Value.string b]) A3 c3 s.shifts) yy W1 := (hd 14 (by decide)).ex rfl
    obtain ⟨hb, hx, hr⟩ := hS
    obtain ⟨g, A1, c1, A2, c2, A3, c3, ⟨e6, hg2⟩, hbg, hrow1, hrow2, hrow3⟩ := x14
    rw [e6]
    clear hd
    have HEA := Lib.hid (show Ea w W1 s (fun e => e) W1.heap.size g A1 c1 A2 c2 A3 c3 none 0 [] 0 from ⟨hx, hr, hbg, hrow1, hrow2, hrow3, World.ownsRow_nil .., ⟨⟨by simp, fun i z y h => by simp at h⟩, fun i y h => by simp at h, fun i j y z _ h => by simp at h⟩, hb, hg2, hbg.lt, Nat.le_refl _⟩)
    have hl2' : (s.zones.length : Int) ≤ 1000 := by omega
    clear hx hr hbg hrow1 hrow2 hrow3 hb e6 hg2 hb0 hx0 hr0
    go_wp2_with fail
    go_loopw [4] (fun i W => ∃ k : Nat, k ≤ s.zones.length ∧ i = .int .i64 k ∧ ∃ zA zc Y, Ea w W s (fun e => e) W1.heap.size g A1 c1 A2 c2 A3 c3 zA zc Y k) (fun i _ => s.zones.length - (intOf i).toNat)
    case atStart => exact ⟨0, Nat.zero_le _, rfl, none, 0, [], HEA.out⟩
    case round =>
      clear HEA
      obtain ⟨k, hk, rfl, zA, zc, Y, hea⟩ := hrel
      have HEA := Lib.hid hea
      have c1' := (hea.src.cell 1).trans rfl
      by_cases hlt : k < s.zones.length
      · have hki : (k : Int) < (s.zones.length : Int) := by omega
        have hk0 : (0 : Int) ≤ (k : Int) := by omega
        obtain ⟨z, hz⟩ : ∃ z, s.zones[k]? = some z := ⟨_, List.getElem?_eq_getElem hlt⟩
        obtain ⟨gz, oz, hzA, hgz, haz⟩ := (HS.out.zones.below hea.bel) k z hz
        rw [hzA] at c1'
        have n0 : wr.cell? ⟨gz, oz + k * 2, none⟩ = some (.string z.name) := haz 0 _ rfl
        have n1 : wr.cell? ⟨gz, oz + k * 2 + 1, none⟩ = some (.slice z.A z.eras.length z.c) := haz 1 _ rfl
        have d1 := (hea.own.cell 1).trans rfl
        have HZM := Lib.hid (List.mem_of_getElem? hz)
        have hle := HFW.out.eras z HZM.out
        have HEW := Lib.hid (HS.out.eras z HZM.out)
        have hgw : gz < w.heap.size ∧ w.cell? ⟨gz, oz + k * 2, none⟩ = some (.string z.name) ∧ w.cell? ⟨gz, oz + k * 2 + 1, none⟩ = some (.slice z.A z.eras.length z.c) := by
          obtain ⟨g', o', hA', hg', hc'⟩ := HS.out.zones k z hz
          rw [hzA] at hA'
          injection hA' with e
          injection e with e1 e2
          subst e1
          subst e2
          exact ⟨hg', hc' 0 _ rfl, hc' 1 _ rfl⟩
        have HGZ := Lib.hid hgw.1; have HN0 := Lib.hid hgw.2.1; have HN1 := Lib.hid hgw.2.2
        have HZA := Lib.hid hzA
        have HYL : Hid (Y.length ≤ 1000) := Lib.hid (by have h1 := HEA.out.zin.same.1; rw [List.length_take, List.length_map] at h1; omega)
        have HGL : Hid (W1.heap.size ≤ wr.heap.size) := Lib.hid hea.gle.2.2
        have HGB : Hid (w.heap.size + 2 ≤ g ∧ g < W1.heap.size) := Lib.hid ⟨hea.gle.1, hea.gle.2.1⟩
        have HZ0 : Hid (∀ K, (Value.slice zA Y.length zc).ownBlock = some K → K < wr.heap.size) := Lib.hid fun K hK => (World.ownsRow.lt hea.zrow K hK).2
        have HKZ := Lib.hid hz; have HLT := Lib.hid hlt
        have hS0 := hea.toEb (Below.refl wr.heap.size wr)
        have HS0 := Lib.hid hS0
        clear hea haz hz hzA hlt hgw n0 n1 d1 hS0 hgz
        go_wp2_with fail
        clear c1'
        refine wp_region_shapeB [(some 25, []), (some 26, [0]), (some 27, []), (some 28, [2]), (some 29, []), (some 30, [3, 4]), (some 31, [5]), (some 32, [6]), (some 33, []), (some 34, []), (some 35, [9]), (some 36, []), (some 37, [10, 11]), (some 38, [12]), (some 39, [13]), (some 40, [8, 14]), (some 41, [7, 15]), (some 42, [16]), (some 43, [1, 17, 15]), (some 44, [0, 1, 2, 3, 4, 5, 6, 7, 8, 9, 10, 11, 12, 13, 14, 15, 16, 17, 18]), (none, [19, 18, 18, 0, 1, 2, 3, 4, 5, 6, 7, 8, 9, 10, 11, 12, 13, 14, 15, 16, 17, 18])] (fun y => { tmps := #[.agg #[.slice s.rA s.rules.length s.rc, .slice s.zA s.zones.length s.zc, .slice s.kA s.links.length s.kc, .slice s.hA s.shifts.length s.hc], .pointer (some ⟨w.heap.size, 0, none⟩), .pointer (some ⟨w.heap.size + 1, 0, none⟩), .pointer (some ⟨g, 0, none⟩), .int .i64 k, yy 5, yy 6, yy 7, yy 8, yy 9, yy 10, yy 11, yy 12, yy 13, yy 14, yy 15, yy 16, yy 17, .int .i64 k, .pointer (some ⟨w.heap.size, 1, none⟩), .slice (some ⟨gz, oz, none⟩) s.zones.length s.zc, .int .i64 s.zones.length, .bool true, u23, u24, y 25, y 26, y 27, y 28, y 29, y 30, y 31, y 32, y 33, y 34, y 35, y 36, y 37, y 38, y 39, y 40, y 41, y 42, y 43, y 44, undef], defers := [] }) (fun k => match k with | 25 => u25 | 26 => u26 | 27 => u27 | 28 => u28 | 29 => u29 | 30 => u30 | 31 => u31 | 32 => u32 | 33 => u33 | 34 => u34 | 35 => u35 | 36 => u36 | 37 => u37 | 38 => u38 | 39 => u39 | 40 => u40 | 41 => u41 | 42 => u42 | 43 => u43 | 44 => u44 | _ => undef) (fun j => j == 8 || j == 15 || j == 16 || j == 17 || j == 18 || j == 20) [.pointer (some ⟨g, 1, none⟩), .slice zA Y.length zc, .pointer (some ⟨w.heap.size, 1, none⟩), .slice (some ⟨gz, oz, none⟩) s.zones.length s.zc, .int .i64 k, .pointer (some ⟨gz, oz + k * 2, none⟩), .pointer (some ⟨gz, oz + k * 2, none⟩), .string z.name, undef, .pointer (some ⟨w.heap.size, 1, none⟩), .slice (some ⟨gz, oz, none⟩) s.zones.length s.zc, .int .i64 k, .pointer (some ⟨gz, oz + k * 2, none⟩), .pointer (some ⟨gz, oz + k * 2 + 1, none⟩), .slice z.A z.eras.length z.c, undef, undef, undef, undef, .pointer (some ⟨g, 1, none⟩), undef] (fun j y W => match j with | 8 => Lit0 W wr.heap.size 47 13 (y 33) | 15 => ∃ A c, y 40 = .slice A z.eras.length c ∧ RowOf W wr.heap.size 47 13 EV.cells A c z.eras | 16 => ∃ A c, y 41 = .agg #[.string z.name, .slice A z.eras.length c] ∧ RowOf W wr.heap.size 47 13 EV.cells A c z.eras | 17 => ∃ B A c, y 42 = .slice (some ⟨B, 0, none⟩) 1 1 ∧ wr.heap.size ≤ B ∧ Blk W B 39 #[.string z.name, .slice A z.eras.length c] ∧ RowOf W wr.heap.size 47 13 EV.cells A c z.eras | 18 => ∃ zA' zc' A c, y 43 = .slice zA' (Y.length + 1) zc' ∧ RowOf W W1.heap.size 39 2 ZV.cells zA' zc' (Y ++ [⟨z.name, A, c, z.eras⟩]) ∧ RowOf W wr.heap.size 47 13 EV.cells A c z.eras | 20 => ∃ zA' zc' A c, RowOf W W1.heap.size 39 2 ZV.cells zA' zc' (Y ++ [⟨z.name, A, c, z.eras⟩]) ∧ RowOf W wr.heap.size 47 13 EV.cells A c z.eras ∧ Blk W g 32 #[.slice A1 s.rules.length c1, .slice zA' (Y.length + 1) zc', .slice A2 s.links.length c2, .slice A3 s.shifts.length c3] | _ => True) (fun j => match j with | 8 => [33] | 15 => [40] | 16 => [41] | 17 => [42] | 18 => [43] | 20 => [] | _ => []) 18 (fun b => GZ wr.heap.size b) (fun b W => Eb w W s (fun e => e) W1.heap.size g A1 c1 A2 c2 A3 c3 zA zc Y k b wr) (by kernel_rfl) (by kernel_rfl) (by decide +kernel) rfl (HS0.out.below (Below.refl _ _).drew) ?hput5 ?hloc5 ?hmono5 ?hstep5 ?hdone5
        case hput5 =>
          intro d hd y v
          simp only [List.filterMap_cons, List.filterMap_nil, List.mem_cons, List.not_mem_nil, or_false] at hd
          rcases hd with rfl | rfl | rfl | rfl | rfl | rfl | rfl | rfl | rfl | rfl | rfl | rfl | rfl | rfl | rfl | rfl | rfl | rfl | rfl | rfl
          all_goals rfl
        case hloc5 =>
          intro j hj y y' W hk hx
          have hj' : j = 8 ∨ j = 15 ∨ j = 16 ∨ j = 17 ∨ j = 18 ∨ j = 20 := by simpa [or_assoc] using hj
          rcases hj' with rfl | rfl | rfl | rfl | rfl | rfl
          · simp only [List.forall_mem_cons, List.not_mem_nil, false_imp_iff, implies_true, and_true] at hk
            show _
            simpa only [hk] using hx
          · simp only [List.forall_mem_cons, List.not_mem_nil, false_imp_iff, implies_true, and_true] at hk
            show _
            simpa only [hk] using hx
          · simp only [List.forall_mem_cons, List.not_mem_nil, false_imp_iff, implies_true, and_true] at hk
            show _
            simpa only [hk] using hx
          · simp only [List.forall_mem_cons, List.not_mem_nil, false_imp_iff, implies_true, and_true] at hk
            show _
            simpa only [hk] using hx
          · simp only [List.forall_mem_cons, List.not_mem_nil, false_imp_iff, implies_true, and_true] at hk
            show _
            simpa only [hk] using hx
          · skip
            exact hx
        case hmono5 =>
          intro j hj hlast b hbq y W W' hg hx
          have hj' : j = 8 ∨ j = 15 ∨ j = 16 ∨ j = 17 ∨ j = 18 ∨ j = 20 := by simpa [or_assoc] using hj
          rcases hj' with rfl | rfl | rfl | rfl | rfl | rfl
          · exact Lit0.passZ hg (by decide) (by decide) hx
          · obtain ⟨A, c, h1, h2⟩ := hx; exact ⟨A, c, h1, hg.row (by decide) (by decide) h2⟩
          · obtain ⟨A, c, h1, h2⟩ := hx; exact ⟨A, c, h1, hg.row (by decide) (by decide) h2⟩
          · obtain ⟨B, A, c, h1, h3, h4, h2⟩ := hx; exact ⟨B, A, c, h1, h3, hg.far _ _ _ (by decide) (.inr (.inl h3)) h4, hg.row (by decide) (by decide) h2⟩
          · obtain ⟨zA', zc', A, c, h1, h2, h3⟩ := hx; have hb1 := hbq rfl; subst hb1; exact ⟨zA', zc', A, c, h1, hg.rowT (by decide) h2, hg.row (by decide) (by decide) h3⟩
          · exact absurd hlast (by decide)
        case hdone5 =>
          intro y5 W5 hS hd
          have x20 : (fun (y : Nat → Value) (W : World) => ∃ zA' zc' A c, RowOf W W1.heap.size 39 2 ZV.cells zA' zc' (Y ++ [⟨z.name, A, c, z.eras⟩]) ∧ RowOf W wr.heap.size 47 13 EV.cells A c z.eras ∧ Blk W g 32 #[.slice A1 s.rules.length c1, .slice zA' (Y.length + 1) zc', .slice A2 s.links.length c2, .slice A3 s.shifts.length c3]) y5 W5 := (hd 20 (by decide)).ex rfl
          obtain ⟨zA', zc', A, c, h1, h2, h3⟩ := x20
          have HE7 := Lib.hid (show Ea w W5 s (fun e => e) W1.heap.size g A1 c1 A2 c2 A3 c3 zA' zc' (Y ++ [⟨z.name, A, c, z.eras⟩]) (k + 1) from ⟨hS.src, hS.res, by rw [List.length_append]; exact h3, hS.rules, hS.links, hS.shifts, h1, zones_snocH (z := z) HEA.out.zin (by rw [List.getElem?_map, HKZ.out]; show some (mapE (fun e => e) z) = some z; unfold mapE; rw [List.map_id']) hS.zin HEA.out.gle.2.2 (Nat.le_refl _) h2, hS.bel, HGB.out.1, HGB.out.2, Nat.le_trans HGL.out hS.le⟩)
          clear hd hS h1 h2 h3
          go_wp2_with fail
          go_roundw
          case rel => exact ⟨k + 1, by have := HLT.out; omega, by go_num, zA', zc', Y ++ ([⟨z.name, A, c, z.eras⟩] : List ZV), HE7.out⟩
          case measure => have := HLT.out; simp [intOf]; omega
        case hstep5 =>
          refine StepsOkB.cons (StepOkB.known rfl fun y W b hbq hS hd K' hK => ?_) ?_
          · skip
            clear hd
            go_simp
            exact hK.out _ _ rfl (GZ.refl _ _ _) hS.or
          refine StepsOkB.cons (StepOkB.known rfl fun y W b hbq hS hd K' hK => ?_) ?_
          · skip
            have e25 : y 25 = .pointer (some ⟨g, 1, none⟩) := (hd 0 rfl).val rfl rfl
            clear hd
            have hb1 := hbq.1 (.inr rfl)
            subst hb1
            obtain ⟨v, hv, hv2⟩ := hS.own
            obtain rfl := hv2 rfl
            have hc := (hv.cell 1).trans rfl
            go_simp
            exact hK.out _ _ (by first | rfl | (simp only [e25]; done) | (simp only [e25]; rfl)) (GZ.refl _ _ _) hS.or
          refine StepsOkB.cons (StepOkB.known rfl fun y W b hbq hS hd K' hK => ?_) ?_
          · skip
            clear hd
            go_simp
            exact hK.out _ _ rfl (GZ.refl _ _ _) hS.or
          refine StepsOkB.cons (StepOkB.known rfl fun y W b hbq hS hd K' hK => ?_) ?_
          · skip
            have e27 : y 27 = .pointer (some ⟨w.heap.size, 1, none⟩) := (hd 2 rfl).val rfl rfl
            clear hd
            have hc := (hS.src.cell 1).trans rfl
            rw [HZA.out] at hc
            go_simp
            exact hK.out _ _ (by first | rfl | (simp only [e27]; done) | (simp only [e27]; rfl)) (GZ.refl _ _ _) hS.or
          refine StepsOkB.cons (StepOkB.known rfl fun y W b hbq hS hd K' hK => ?_) ?_
          · skip
            clear hd
            go_simp
            exact hK.out _ _ rfl (GZ.refl _ _ _) hS.or
          refine StepsOkB.cons (StepOkB.known rfl fun y W b hbq hS hd K' hK => ?_) ?_
          · skip
            have e28 : y 28 = .slice (some ⟨gz, oz, none⟩) s.zones.length s.zc := (hd 3 rfl).val rfl rfl
            have e29 : y 29 = .int .i64 k := (hd 4 rfl).val rfl rfl
            clear hd
            go_simp
            exact hK.out _ _ (by first | rfl | (simp only [e28, e29]; done) | (simp only [e28, e29]; rfl)) (GZ.refl _ _ _) hS.or
          refine StepsOkB.cons (StepOkB.known rfl fun y W b hbq hS hd K' hK => ?_) ?_
          · skip
            have e30 : y 30 = .pointer (some ⟨gz, oz + k * 2, none⟩) := (hd 5 rfl).val rfl rfl
            clear hd
            go_simp
            exact hK.out _ _ (by first | rfl | (simp only [e30]; done) | (simp only [e30]; rfl)) (GZ.refl _ _ _) hS.or
          refine StepsOkB.cons (StepOkB.known rfl fun y W b hbq hS hd K' hK => ?_) ?_
          · skip
            have e31 : y 31 = .pointer (some ⟨gz, oz + k * 2, none⟩) := (hd 6 rfl).val rfl rfl
            clear hd
            have hc := (hS.bel.cell (p := ⟨gz, oz + k * 2, none⟩) HGZ.out).trans HN0.out
            go_simp
            exact hK.out _ _ (by first | rfl | (simp only [e31]; done) | (simp only [e31]; rfl)) (GZ.refl _ _ _) hS.or
          refine StepsOkB.cons (StepOkB.other rfl fun y W b hbq hS hd K' hK => ?_) ?_
          · skip
            clear hd
            have hle := hS.le
            go_simp
            exact hK.out _ _ _ rfl (GZ.below _ ((Below.refl _ W).alloc (Nat.le_refl _) _)) (hS.below ((Below.refl _ W).alloc (Nat.le_refl _) _)).or (show Lit0 _ wr.heap.size 47 13 _ from Lit0.made W hle)
          refine StepsOkB.cons (StepOkB.known rfl fun y W b hbq hS hd K' hK => ?_) ?_
          · skip
            clear hd
            go_simp
            exact hK.out _ _ rfl (GZ.refl _ _ _) hS.or
          refine StepsOkB.cons (StepOkB.known rfl fun y W b hbq hS hd K' hK => ?_) ?_
          · skip
            have e34 : y 34 = .pointer (some ⟨w.heap.size, 1, none⟩) := (hd 9 rfl).val rfl rfl
            clear hd
            have hc := (hS.src.cell 1).trans rfl
            rw [HZA.out] at hc
            go_simp
            exact hK.out _ _ (by first | rfl | (simp only [e34]; done) | (simp only [e34]; rfl)) (GZ.refl _ _ _) hS.or
          refine StepsOkB.cons (StepOkB.known rfl fun y W b hbq hS hd K' hK => ?_) ?_
          · skip
            clear hd
            go_simp
            exact hK.out _ _ rfl (GZ.refl _ _ _) hS.or
          refine StepsOkB.cons (StepOkB.known rfl fun y W b hbq hS hd K' hK => ?_) ?_
          · skip
            have e35 : y 35 = .slice (some ⟨gz, oz, none⟩) s.zones.length s.zc := (hd 10 rfl).val rfl rfl
            have e36 : y 36 = .int .i64 k := (hd 11 rfl).val rfl rfl
            clear hd
            go_simp
            exact hK.out _ _ (by first | rfl | (simp only [e35, e36]; done) | (simp only [e35, e36]; rfl)) (GZ.refl _ _ _) hS.or
          refine StepsOkB.cons (StepOkB.known rfl fun y W b hbq hS hd K' hK => ?_) ?_
          · skip
            have e37 : y 37 = .pointer (some ⟨gz, oz + k * 2, none⟩) := (hd 12 rfl).val rfl rfl
            clear hd
            go_simp
            exact hK.out _ _ (by first | rfl | (simp only [e37]; done) | (simp only [e37]; rfl)) (GZ.refl _ _ _) hS.or
          refine StepsOkB.cons (StepOkB.known rfl fun y W b hbq hS hd K' hK => ?_) ?_
          · skip
            have e38 : y 38 = .pointer (some ⟨gz, oz + k * 2 + 1, none⟩) := (hd 13 rfl).val rfl rfl
            clear hd
            have hc := (hS.bel.cell (p := ⟨gz, oz + k * 2 + 1, none⟩) HGZ.out).trans HN1.out
            go_simp
            exact hK.out _ _ (by first | rfl | (simp only [e38]; done) | (simp only [e38]; rfl)) (GZ.refl _ _ _) hS.or
          refine StepsOkB.cons (StepOkB.other rfl fun y W b hbq hS hd K' hK => ?_) ?_
          · skip
            have x8 : (fun (y : Nat → Value) (W : World) => Lit0 W wr.heap.size 47 13 (y 33)) y W := (hd 8 rfl).ex rfl
            have e39 : y 39 = .slice z.A z.eras.length z.c := (hd 14 rfl).val rfl rfl
            clear hd
            obtain ⟨B, h1, h2⟩ := x8
            have hle := hS.le
            obtain ⟨i1, hi, hz0, hz1, hz2⟩ := info_parts infoEra
            refine step_append_lit (by rfl) _ _ 37 (by rfl) wr.heap.size 47 i1 _ 13 120 B Tryd.underlying37 hi hz0 hz1 hz2 rfl (by decide) (by first | rfl | (simp only [h1]; done) | (simp only [h1]; rfl)) h2 z.A z.eras.length z.c (z.eras.flatMap EV.cells) (by first | rfl | (simp only [e39]; rfl)) (fl_len len_era _) (in_news len_era (by decide) (HEW.out.below hS.bel)) (one_fl one_era _) (by simp only [maxLen]; omega) (by omega) hle ?_
            intro A' c' w' hrow hgr
            have hc := grown_below hgr
            exact hK.out _ _ _ rfl (GZ.below _ hc) (hS.below hc).or (show ∃ A c, _ = Value.slice A z.eras.length c ∧ RowOf _ wr.heap.size 47 13 EV.cells A c z.eras from ⟨A', c', rfl, hrow⟩)
          refine StepsOkB.cons (StepOkB.other rfl fun y W b hbq hS hd K' hK => ?_) ?_
          · skip
            have e32 : y 32 = .string z.name := (hd 7 rfl).val rfl rfl
            have x15 : (fun (y : Nat → Value) (W : World) => ∃ A c, y 40 = .slice A z.eras.length c ∧ RowOf W wr.heap.size 47 13 EV.cells A c z.eras) y W := (hd 15 rfl).ex rfl
            clear hd
            obtain ⟨A, c, h1, h2⟩ := x15
            go_simp
            exact hK.out _ _ _ (by first | rfl | (simp only [h1, e32]; done) | (simp only [h1, e32]; rfl)) (GZ.refl _ _ _) hS.or (show ∃ A c, _ = Value.agg #[.string z.name, .slice A z.eras.length c] ∧ RowOf _ wr.heap.size 47 13 EV.cells A c z.eras from ⟨A, c, rfl, h2⟩)
          refine StepsOkB.cons (StepOkB.other rfl fun y W b hbq hS hd K' hK => ?_) ?_
          · skip
            have x16 : (fun (y : Nat → Value) (W : World) => ∃ A c, y 41 = .agg #[.string z.name, .slice A z.eras.length c] ∧ RowOf W wr.heap.size 47 13 EV.cells A c z.eras) y W := (hd 16 rfl).ex rfl
            clear hd
            obtain ⟨A, c, h1, h2⟩ := x16
            have hle := hS.le
            have hal := (Below.refl W.heap.size W).alloc (Nat.le_refl _) (.cells #[.string z.name, .slice A z.eras.length c] 39)
            go_simp
            exact hK.out _ _ _ (by first | rfl | (simp only [h1]; done) | (simp only [h1]; rfl)) (GZ.below _ hal) (hS.below hal).or (show ∃ B A c, _ = Value.slice (some ⟨B, 0, none⟩) 1 1 ∧ wr.heap.size ≤ B ∧ Blk _ B 39 #[.string z.name, .slice A z.eras.length c] ∧ RowOf _ wr.heap.size 47 13 EV.cells A c z.eras from ⟨_, A, c, rfl, hle, Blk.new W _ _, own_below h2 hal⟩)
          refine StepsOkB.cons (StepOkB.other rfl fun y W b hbq hS hd K' hK => ?_) ?_
          · skip
            have e26 : y 26 = .slice zA Y.length zc := (hd 1 rfl).val rfl rfl
            have x17 : (fun (y : Nat → Value) (W : World) => ∃ B A c, y 42 = .slice (some ⟨B, 0, none⟩) 1 1 ∧ wr.heap.size ≤ B ∧ Blk W B 39 #[.string z.name, .slice A z.eras.length c] ∧ RowOf W wr.heap.size 47 13 EV.cells A c z.eras) y W := (hd 17 rfl).ex rfl
            clear hd
            have hb1 := hbq.1 (.inl rfl)
            subst hb1
            obtain ⟨B, A, c, h1, h3, h4, h2⟩ := x17
            have hle := hS.le
            obtain ⟨hz, hbw⟩ := hS.ahead rfl
            obtain ⟨i1, hi, hz0, hz1, hz2⟩ := info_parts infoZone
            refine step_append_own (by rfl) _ _ 28 (by rfl) W1.heap.size 39 i1 _ 2 40 Tryd.underlying28 hi hz0 hz1 hz2 rfl (by decide) (.slice zA Y.length zc) Y.length (Y.flatMap ZV.cells) (by first | rfl | (simp only [e26]; rfl)) hz ⟨B, 0, none⟩ 1 1 [.string z.name, .slice A z.eras.length c] (by first | rfl | (simp only [h1]; rfl)) rfl (blk_cells h4) (by simp [Value.oneCell']) (by have := HYL.out; simp only [maxLen]; omega) (by have := HYL.out; omega) (Nat.le_trans HGL.out hle) ?_
            intro v1 w6 hown hgr
            obtain ⟨zA', zc', rfl⟩ := row_is hown
            have hG := GZ.grown hz HZ0.out hgr
            exact hK.out _ _ _ rfl hG (hS.grown hz hgr HGB.out) (show ∃ zA'' zc'' A c, _ = Value.slice zA'' (Y.length + 1) zc'' ∧ RowOf _ W1.heap.size 39 2 ZV.cells zA'' zc'' (Y ++ [⟨z.name, A, c, z.eras⟩]) ∧ RowOf _ wr.heap.size 47 13 EV.cells A c z.eras from ⟨zA', zc', A, c, rfl, zrow_snoc hown, hG.row (by decide) (by decide) h2⟩)
          refine StepsOkB.cons (StepOkB.known rfl fun y W b hbq hS hd K' hK => ?_) ?_
          · skip
            clear hd
            go_simp
            exact hK.out _ _ rfl (GZ.refl _ _ _) hS.or
          refine StepsOkB.cons (StepOkB.other rfl fun y W b hbq hS hd K' hK => ?_) ?_
          · skip
            have x18 : (fun (y : Nat → Value) (W : World) => ∃ zA' zc' A c, y 43 = .slice zA' (Y.length + 1) zc' ∧ RowOf W W1.heap.size 39 2 ZV.cells zA' zc' (Y ++ [⟨z.name, A, c, z.eras⟩]) ∧ RowOf W wr.heap.size 47 13 EV.cells A c z.eras) y W := (hd 18 rfl).ex rfl
            have e44 : y 44 = .pointer (some ⟨g, 1, none⟩) := (hd 19 rfl).val rfl rfl
            clear hd
            obtain ⟨zA', zc', A, c, h1, h2, h3⟩ := x18
            have hb1 := hbq.2 rfl
            subst hb1
            obtain ⟨v, hv, _⟩ := hS.own
            have k1 := (hv.cell 1).trans rfl
            have f1 := hv.frozen 1
            have t1 := hv.set_ 1 (.slice zA' (Y.length + 1) zc')
            have q1 := GS.set_ hv 1 (.slice zA' (Y.length + 1) zc')
            have hs' := hS.set1 hv (.slice zA' (Y.length + 1) zc') HGB.out
            have HH := Lib.hid (And.intro t1 (And.intro q1 hs'))
            clear t1 q1 hs'
            go_simp
            exact hK.out undef _ _ (by first | rfl | (simp only [h1]; done) | (simp only [h1, e44]; rfl)) (GZ.gs _ HH.out.2.1) HH.out.2.2 (show ∃ zA' zc' A c, RowOf _ W1.heap.size 39 2 ZV.cells zA' zc' (Y ++ [⟨z.name, A, c, z.eras⟩]) ∧ RowOf _ wr.heap.size 47 13 EV.cells A c z.eras ∧ Blk _ g 32 #[.slice A1 s.rules.length c1, .slice zA' (Y.length + 1) zc', .slice A2 s.links.length c2, .slice A3 s.shifts.length c3] from ⟨zA', zc', A, c, HH.out.2.1.row (by decide) h2, HH.out.2.1.row (by decide) h3, HH.out.1⟩)
          exact StepsOkB.nil
      · obtain rfl : k = s.zones.length := by omega
        have p0 := (hea.own.cell 0).trans rfl; have p1 := (hea.own.cell 1).trans rfl; have p2 := (hea.own.cell 2).trans rfl; have p3 := (hea.own.cell 3).trans rfl
        have r0 := (hea.res.cell 0).trans rfl; have r1 := (hea.res.cell 1).trans rfl; have r2 := (hea.res.cell 2).trans rfl; have r3 := (hea.res.cell 3).trans rfl
        have g0 := hea.res.frozen 0; have g1 := hea.res.frozen 1; have g2 := hea.res.frozen 2; have g3 := hea.res.frozen 3
        have hG := GS.set4 hea.res (.slice A1 s.rules.length c1) (.slice zA Y.length zc) (.slice A2 s.links.length c2) (.slice A3 s.shifts.length c3)
        have HG := Lib.hid hG.1
        have k0 := (hG.2.cell 0).trans rfl; have k1 := (hG.2.cell 1).trans rfl; have k2 := (hG.2.cell 2).trans rfl; have k3 := (hG.2.cell 3).trans rfl
        clear hea hG
        go_wp2_with fail
        refine bodyPost_ret (v := .agg #[.slice A1 s.rules.length c1, .slice zA Y.length zc, .slice A2 s.links.length c2, .slice A3 s.shifts.length c3]) (by simp [results, Tryd.results28, go_sem, k0, k1, k2, k3]) rfl ?_
        have hzi := HEA.out.zin
        rw [show mapE (fun e => e) = id from funext fun z => by simp [mapE], List.map_id, List.take_length] at hzi
        have hq := HEA.out.gle
        refine ⟨⟨A1, c1, s.rules, zA, zc, Y, A2, c2, s.links, A3, c3, s.shifts⟩, rfl, CopyOf.gs ⟨⟨rfl, HEA.out.rules⟩, ⟨HEA.out.zrow.low (by omega), hzi.base_le (by omega)⟩, ⟨rfl, HEA.out.links⟩, ⟨rfl, HEA.out.shifts⟩⟩ HG.out, below_set4 HEA.out.bel (Nat.le_succ _) _ _ _ _⟩
  case hstep1 =>
    refine StepsOk.cons (StepOk.other rfl fun y W hS hd K' hK => ?_) ?_
    · skip
      clear hd
      obtain ⟨hb, hx, hr⟩ := hS
      have hle := hr.lt
      go_simp
      exact hK.out _ _ _ rfl (GS.alloc W _) ⟨hb.alloc hb.size _, hx.alloc _, hr.alloc _⟩ (show Lit0 _ (w.heap.size + 2) 83 11 _ from Lit0.made W (by omega))
    refine StepsOk.cons (StepOk.known rfl fun y W hS hd K' hK => ?_) ?_
    · skip
      clear hd
      go_simp
      exact hK.out _ _ rfl (GS.refl _) hS
    refine StepsOk.cons (StepOk.known rfl fun y W hS hd K' hK => ?_) ?_
    · skip
      have e6 : y 6 = .pointer (some ⟨w.heap.size, 0, none⟩) := (hd 1 rfl).val rfl rfl
      clear hd
      have hc := (hS.2.1.cell 0).trans rfl
      go_simp
      exact hK.out _ _ (by first | rfl | (simp only [e6]; done) | (simp only [e6]; rfl)) (GS.refl _) hS
    refine StepsOk.cons (StepOk.other rfl fun y W hS hd K' hK => ?_) ?_
    · skip
      have x0 : (fun (y : Nat → Value) (W : World) => Lit0 W (w.heap.size + 2) 83 11 (y 5)) y W := (hd 0 rfl).ex rfl
      have e7 : y 7 = .slice s.rA s.rules.length s.rc := (hd 2 rfl).val rfl rfl
      clear hd
      obtain ⟨B, h1, h2⟩ := x0
      obtain ⟨hb, hx, hr⟩ := hS
      have hle := hr.lt
      obtain ⟨i1, hi, hz0, hz1, hz2⟩ := info_parts infoRuleC
      refine step_append_lit (by rfl) _ _ 27 (by rfl) (w.heap.size + 2) 83 i1 _ 11 104 B Tryd.underlying27 hi hz0 hz1 hz2 rfl (by decide) (by first | rfl | (simp only [h1]; done) | (simp only [h1]; rfl)) h2 s.rA s.rules.length s.rc (s.rules.flatMap RV.cells) (by first | rfl | (simp only [e7]; rfl)) (fl_len len_rule _) (in_news len_rule (by decide) (HS.out.rules.below hb)) (one_fl one_rule _) (by simp only [maxLen]; omega) (by omega) (by omega) ?_
      intro A' c' w' hrow hgr
      have hc := grown_below hgr
      exact hK.out _ _ _ rfl (GS.below hc) ⟨hb.trans (hc.mono hb.size), hx.below hc hx.lt, hr.below hc hr.lt⟩ (show ∃ A c, _ = Value.slice A s.rules.length c ∧ RowOf _ (w.heap.size + 2) 83 11 RV.cells A c s.rules from ⟨A', c', rfl, hrow⟩)
    refine StepsOk.cons (StepOk.other rfl fun y W hS hd K' hK => ?_) ?_
    · skip
      clear hd
      obtain ⟨hb, hx, hr⟩ := hS
      have hle := hr.lt
      go_simp
      exact hK.out _ _ _ rfl (GS.alloc W _) ⟨hb.alloc hb.size _, hx.alloc _, hr.alloc _⟩ (show Lit0 _ (w.heap.size + 2) 94 2 _ from Lit0.made W (by omega))
    refine StepsOk.cons (StepOk.known rfl fun y W hS hd K' hK => ?_) ?_
    · skip
      clear hd
      go_simp
      exact hK.out _ _ rfl (GS.refl _) hS
    refine StepsOk.cons (StepOk.known rfl fun y W hS hd K' hK => ?_) ?_
    · skip
      have e10 : y 10 = .pointer (some ⟨w.heap.size, 2, none⟩) := (hd 5 rfl).val rfl rfl
      clear hd
      have hc := (hS.2.1.cell 2).trans rfl
      go_simp
      exact hK.out _ _ (by first | rfl | (simp only [e10]; done) | (simp only [e10]; rfl)) (GS.refl _) hS
    refine StepsOk.cons (StepOk.other rfl fun y W hS hd K' hK => ?_) ?_
    · skip
      have x3 : (fun (y : Nat → Value) (W : World) => ∃ A c, y 8 = .slice A s.rules.length c ∧ RowOf W (w.heap.size + 2) 83 11 RV.cells A c s.rules) y W := (hd 3 rfl).ex rfl
      have x4 : (fun (y : Nat → Value) (W : World) => Lit0 W (w.heap.size + 2) 94 2 (y 9)) y W := (hd 4 rfl).ex rfl
      have e11 : y 11 = .slice s.kA s.links.length s.kc := (hd 6 rfl).val rfl rfl
      clear hd
      obtain ⟨B, h1, h2⟩ := x4
      obtain ⟨hb, hx, hr⟩ := hS
      have hle := hr.lt
      obtain ⟨i1, hi, hz0, hz1, hz2⟩ := info_parts infoLink
      refine step_append_lit (by rfl) _ _ 29 (by rfl) (w.heap.size + 2) 94 i1 _ 2 32 B Tryd.underlying29 hi hz0 hz1 hz2 rfl (by decide) (by first | rfl | (simp only [h1]; done) | (simp only [h1]; rfl)) h2 s.kA s.links.length s.kc (s.links.flatMap KV.cells) (by first | rfl | (simp only [e11]; rfl)) (fl_len len_link _) (in_news len_link (by decide) (HS.out.links.below hb)) (one_fl one_link _) (by simp only [maxLen]; omega) (by omega) (by omega) ?_
      intro A' c' w' hrow hgr
      have hc := grown_below hgr
      exact hK.out _ _ _ rfl (GS.below hc) ⟨hb.trans (hc.mono hb.size), hx.below hc hx.lt, hr.below hc hr.lt⟩ (show ∃ A c, _ = Value.slice A s.links.length c ∧ RowOf _ (w.heap.size + 2) 94 2 KV.cells A c s.links from ⟨A', c', rfl, hrow⟩)
    refine StepsOk.cons (StepOk.other rfl fun y W hS hd K' hK => ?_) ?_
    · skip
      clear hd
      obtain ⟨hb, hx, hr⟩ := hS
      have hle := hr.lt
      go_simp
      exact hK.out _ _ _ rfl (GS.alloc W _) ⟨hb.alloc hb.size _, hx.alloc _, hr.alloc _⟩ (show Lit0 _ (w.heap.size + 2) 9 1 _ from Lit0.made W (by omega))
    refine StepsOk.cons (StepOk.known rfl fun y W hS hd K' hK => ?_) ?_
    · skip
      clear hd
      go_simp
      exact hK.out _ _ rfl (GS.refl _) hS
    refine StepsOk.cons (StepOk.known rfl fun y W hS hd K' hK => ?_) ?_
    · skip
      have e14 : y 14 = .pointer (some ⟨w.heap.size, 3, none⟩) := (hd 9 rfl).val rfl rfl
      clear hd
      have hc := (hS.2.1.cell 3).trans rfl
      go_simp
      exact hK.out _ _ (by first | rfl | (simp only [e14]; done) | (simp only [e14]; rfl)) (GS.refl _) hS
    refine StepsOk.cons (StepOk.other rfl fun y W hS hd K' hK => ?_) ?_
    · skip
      have x7 : (fun (y : Nat → Value) (W : World) => ∃ A c, y 12 = .slice A s.links.length c ∧ RowOf W (w.heap.size + 2) 94 2 KV.cells A c s.links) y W := (hd 7 rfl).ex rfl
      have x8 : (fun (y : Nat → Value) (W : World) => Lit0 W (w.heap.size + 2) 9 1 (y 13)) y W := (hd 8 rfl).ex rfl
      have e15 : y 15 = .slice s.hA s.shifts.length s.hc := (hd 10 rfl).val rfl rfl
      clear hd
      obtain ⟨B, h1, h2⟩ := x8
      obtain ⟨hb, hx, hr⟩ := hS
      have hle := hr.lt
      obtain ⟨i1, hi, hz0, hz1, hz2⟩ := info_parts infoStrC
      refine step_append_lit (by rfl) _ _ 30 (by rfl) (w.heap.size + 2) 9 i1 _ 1 16 B Tryd.underlying30 hi hz0 hz1 hz2 rfl (by decide) (by first | rfl | (simp only [h1]; done) | (simp only [h1]; rfl)) h2 s.hA s.shifts.length s.hc (s.shifts.flatMap (fun b : ByteArray => [Value.string b])) (by first | rfl | (simp only [e15]; rfl)) (fl_len len_str _) (in_news len_str (by decide) (HS.out.shifts.below hb)) (one_fl one_str _) (by simp only [maxLen]; omega) (by omega) (by omega) ?_
      intro A' c' w' hrow hgr
      have hc := grown_below hgr
      exact hK.out _ _ _ rfl (GS.below hc) ⟨hb.trans (hc.mono hb.size), hx.below hc hx.lt, hr.below hc hr.lt⟩ (show ∃ A c, _ = Value.slice A s.shifts.length c ∧ RowOf _ (w.heap.size + 2) 9 1 (fun b : ByteArray => [Value.string b]) A c s.shifts from ⟨A', c', rfl, hrow⟩)
    refine StepsOk.cons (StepOk.other rfl fun y W hS hd K' hK => ?_) ?_
    · skip
      have x3 : (fun (y : Nat → Value) (W : World) => ∃ A c, y 8 = .slice A s.rules.length c ∧ RowOf W (w.heap.size + 2) 83 11 RV.cells A c s.rules) y W := (hd 3 rfl).ex rfl
      have x7 : (fun (y : Nat → Value) (W : World) => ∃ A c, y 12 = .slice A s.links.length c ∧ RowOf W (w.heap.size + 2) 94 2 KV.cells A c s.links) y W := (hd 7 rfl).ex rfl
      have x11 : (fun (y : Nat → Value) (W : World) => ∃ A c, y 16 = .slice A s.shifts.length c ∧ RowOf W (w.heap.size + 2) 9 1 (fun b : ByteArray => [Value.string b]) A c s.shifts) y W := (hd 11 rfl).ex rfl
      clear hd
      obtain ⟨A1, c1, h1, h4⟩ := x3
      obtain ⟨A2, c2, h2, h5⟩ := x7
      obtain ⟨A3, c3, h3, h6⟩ := x11
      go_simp
      exact hK.out _ _ _ (by first | rfl | (simp only [h1, h2, h3]; done) | (simp only [h1, h2, h3]; rfl)) (GS.refl _) hS (show ∃ A1 c1 A2 c2 A3 c3, _ = Value.agg #[.slice A1 s.rules.length c1, .slice none 0 0, .slice A2 s.links.length c2, .slice A3 s.shifts.length c3] ∧ RowOf _ (w.heap.size + 2) 83 11 RV.cells A1 c1 s.rules ∧ RowOf _ (w.heap.size + 2) 94 2 KV.cells A2 c2 s.links ∧ RowOf _ (w.heap.size + 2) 9 1 (fun b : ByteArray => [Value.string b]) A3 c3 s.shifts from ⟨A1, c1, A2, c2, A3, c3, rfl, h4, h5, h6⟩)
    refine StepsOk.cons (StepOk.other rfl fun y W hS hd K' hK => ?_) ?_
    · skip
      clear hd
      obtain ⟨hb, hx, hr⟩ := hS
      have hle := hr.lt
      go_simp
      exact hK.out _ _ _ rfl (GS.alloc W _) ⟨hb.alloc hb.size _, hx.alloc _, hr.alloc _⟩ (show ∃ g, (_ = Value.pointer (some ⟨g, 0, none⟩) ∧ w.heap.size + 2 ≤ g) ∧ ∃ a b c d, Blk _ g 32 #[a, b, c, d] from ⟨W.heap.size, ⟨rfl, by omega⟩, _, _, _, _, Blk.new W 32 #[.slice none 0 0, .slice none 0 0, .slice none 0 0, .slice none 0 0]⟩)
    refine StepsOk.cons (StepOk.other rfl fun y W hS hd K' hK => ?_) ?_
    · skip
      have x12 : (fun (y : Nat → Value) (W : World) => ∃ A1 c1 A2 c2 A3 c3, y 17 = .agg #[.slice A1 s.rules.length c1, .slice none 0 0, .slice A2 s.links.length c2, .slice A3 s.shifts.length c3] ∧ RowOf W (w.heap.size + 2) 83 11 RV.cells A1 c1 s.rules ∧ RowOf W (w.heap.size + 2) 94 2 KV.cells A2 c2 s.links ∧ RowOf W (w.heap.size + 2) 9 1 (fun b : ByteArray => [Value.string b]) A3 c3 s.shifts) y W := (hd 12 rfl).ex rfl
      have x13 : (fun (y : Nat → Value) (W : World) => ∃ g, (y 3 = .pointer (some ⟨g, 0, none⟩) ∧ w.heap.size + 2 ≤ g) ∧ ∃ a b c d, Blk W g 32 #[a, b, c, d]) y W := (hd 13 rfl).ex rfl
      clear hd
      obtain ⟨g, ⟨h1, h2⟩, a, b, c, d, hr0⟩ := x13
      obtain ⟨A1, c1, A2, c2, A3, c3, h3, h4, h5, h6⟩ := x12
      have k0 := (hr0.cell 0).trans rfl
      have k1 := (hr0.cell 1).trans rfl
      have k2 := (hr0.cell 2).trans rfl
      have k3 := (hr0.cell 3).trans rfl
      have f0 := hr0.frozen 0
      have f1 := hr0.frozen 1
      have f2 := hr0.frozen 2
      have f3 := hr0.frozen 3
      have q4 := GS.set4 hr0 (.slice A1 s.rules.length c1) (.slice none 0 0) (.slice A2 s.links.length c2) (.slice A3 s.shifts.length c3)
      obtain ⟨hb, hx, hr⟩ := hS
      have hb2 := below_set4 hb (show w.heap.size ≤ g by omega) (.slice A1 s.rules.length c1) (.slice none 0 0) (.slice A2 s.links.length c2) (.slice A3 s.shifts.length c3)
      have hx2 := (((hx.far (p := ⟨g, 0, none⟩) (by show _ ≠ g; omega) (.slice A1 s.rules.length c1)).far (p := ⟨g, 1, none⟩) (by show _ ≠ g; omega) (.slice none 0 0)).far (p := ⟨g, 2, none⟩) (by show _ ≠ g; omega) (.slice A2 s.links.length c2)).far (p := ⟨g, 3, none⟩) (by show _ ≠ g; omega) (.slice A3 s.shifts.length c3)
      have hr2 := (((hr.far (p := ⟨g, 0, none⟩) (by show _ ≠ g; omega) (.slice A1 s.rules.length c1)).far (p := ⟨g, 1, none⟩) (by show _ ≠ g; omega) (.slice none 0 0)).far (p := ⟨g, 2, none⟩) (by show _ ≠ g; omega) (.slice A2 s.links.length c2)).far (p := ⟨g, 3, none⟩) (by show _ ≠ g; omega) (.slice A3 s.shifts.length c3)
      have HH := Lib.hid (And.intro q4.2 (And.intro q4.1 (And.intro hb2 (And.intro hx2 (And.intro hr2 (And.intro (q4.1.row (by decide) h4) (And.intro (q4.1.row (by decide) h5) (q4.1.row (by decide) h6))))))))
      clear q4 hb2 hb hx2 h4 h5 h6
      go_simp
      exact hK.out undef _ _ (by first | rfl | (simp only [h1, h3]; done) | (simp only [h1, h3]; rfl)) HH.out.2.1 ⟨HH.out.2.2.1, HH.out.2.2.2.1, HH.out.2.2.2.2.1⟩ (show ∃ g A1 c1 A2 c2 A3 c3, (y 3 = Value.pointer (some ⟨g, 0, none⟩) ∧ w.heap.size + 2 ≤ g) ∧ Blk _ g 32 #[.slice A1 s.rules.length c1, .slice none 0 0, .slice A2 s.links.length c2, .slice A3 s.shifts.length c3] ∧ RowOf _ (w.heap.size + 2) 83 11 RV.cells A1 c1 s.rules ∧ RowOf _ (w.heap.size + 2) 94 2 KV.cells A2 c2 s.links ∧ RowOf _ (w.heap.size + 2) 9 1 (fun b : ByteArray => [Value.string b]) A3 c3 s.shifts from ⟨g, A1, c1, A2, c2, A3, c3, ⟨h1, h2⟩, HH.out.1, HH.out.2.2.2.2.2⟩)
    exact StepsOk.nil

end Go.Proofs.YtlideagcmhlkeaaDoor

/- The walk of Same (the reference of chapter 14). -/
namespace Go.Proofs.YtlideagcmhlkeaaDoor
open Go.RowKit Go.Lib
set_option linter.unusedVariables false
set_option linter.unusedSimpArgs false
attribute [local go_sem high] neq_era neq_rule neq_link

/-- the boxes of Same -/
structure Box14 (w W : World) (a b : SV) : Prop where
  one : Blk W w.heap.size 32 #[.slice a.rA a.rules.length a.rc, .slice a.zA a.zones.length a.zc, .slice a.kA a.links.length a.kc, .slice a.hA a.shifts.length a.hc]
  two : Blk W (w.heap.size + 1) 32 #[.slice b.rA b.rules.length b.rc, .slice b.zA b.zones.length b.zc, .slice b.kA b.links.length b.kc, .slice b.hA b.shifts.length b.hc]
  bel : Below w.heap.size w W
theorem Box14.below {w W W' : World} {a b : SV} (h : Box14 w W a b) (hb : Below W.heap.size W W') : Box14 w W' a b := ⟨h.one.below hb h.one.lt, h.two.below hb h.two.lt, h.bel.trans (hb.mono h.bel.size)⟩
theorem box14_new (w : World) (a b : SV) : Box14 w ((w.alloc (.cells #[.slice a.rA a.rules.length a.rc, .slice a.zA a.zones.length a.zc, .slice a.kA a.links.length a.kc, .slice a.hA a.shifts.length a.hc] 32)).alloc (.cells #[.slice b.rA b.rules.length b.rc, .slice b.zA b.zones.length b.zc, .slice b.kA b.links.length b.kc, .slice b.hA b.shifts.length b.hc] 32)) a b :=
  ⟨(Blk.new w _ _).alloc _, Blk.newAt _ (w.heap.size + 1) (by simp) _ _, ((Below.refl _ w).alloc (Nat.le_refl _) _).alloc (by simp) _⟩
def big14 (s : SV) : Prop := s.rules.length ≤ 1000 ∧ s.zones.length ≤ 1000 ∧ s.links.length ≤ 1000 ∧ s.shifts.length ≤ 1000 ∧ ∀ z ∈ s.zones, z.eras.length ≤ 1000
end Go.Proofs.YtlideagcmhlkeaaDoor

/- The walk of turns (chapter 30): a function makes another FORMAT of the one era of a source, or fails. -/
namespace Go.Proofs.YtlideagcmhlkeaaDoor
open Go.RowKit Go.Lib
set_option linter.unusedVariables false
set_option linter.unusedSimpArgs false

theorem ErrIs.one {F : EV → ByteArray × Int} {Z : List ZV} {nm : ByteArray} {eA : Option Addr} {ec : Nat} {e : EV} (h : Z = [⟨nm, eA, ec, [e]⟩]) : ErrIs F Z (F e).2 := by
  subst h
  by_cases h0 : (F e).2 = 0
  · rw [h0]
    refine ErrIs.ok (i := 1) (fun a b z x hz hx hp => ?_) (by simp)
    have ha : a = 0 := by have := (List.getElem?_eq_some_iff.1 hz).1; simp at this; omega
    subst ha
    rw [List.getElem?_cons_zero] at hz
    injection hz with hz
    subst hz
    have hb : b = 0 := by have := (List.getElem?_eq_some_iff.1 hx).1; simp at this; omega
    subst hb
    injection hx with hx
    subst hx
    exact h0
  · exact ErrIs.bad (okTo30.zero _ _) (i := 0) (k := 0) (z := ⟨nm, eA, ec, [e]⟩) rfl rfl h0
theorem same_lens {t s : SV} (h : sSame14 t s) : t.rules.length = s.rules.length ∧ t.zones.length = s.zones.length ∧ t.links.length = s.links.length ∧ t.shifts.length = s.shifts.length := ⟨by rw [h.rules], h.zones.1, by rw [h.links], by rw [h.shifts]⟩
theorem same_eras {t s : SV} (h : sSame14 t s) : ∀ z ∈ t.zones, ∃ y ∈ s.zones, z.name = y.name ∧ z.eras = y.eras := fun z hz => by
  obtain ⟨i, hi⟩ := List.mem_iff_getElem?.1 hz
  have hl := (List.getElem?_eq_some_iff.1 hi).1
  obtain ⟨y, hy⟩ : ∃ y, s.zones[i]? = some y := ⟨_, List.getElem?_eq_getElem (by rw [← h.zones.1]; exact hl)⟩
  exact ⟨y, List.mem_of_getElem? hy, h.zones.2 i z y hl hi hy⟩
theorem big_of {s t : SV} (hf : Few30 s) (hl : t.rules.length = s.rules.length ∧ t.zones.length = s.zones.length ∧ t.links.length = s.links.length ∧ t.shifts.length = s.shifts.length) (he : ∀ z ∈ t.zones, ∃ y ∈ s.zones, z.eras.length = y.eras.length) : big14 t := by
  have h := hf.lens
  refine ⟨by omega, by omega, by omega, by omega, fun z hz => ?_⟩
  obtain ⟨y, hy, hq⟩ := he z hz
  have := hf.eras y hy
  omega
theorem big_map {s t : SV} {G : EV → EV} (hf : Few30 s) (h : sSame14 t (mapS G s)) : big14 t := big_of hf (by have := same_lens h; simpa [mapS] using this) fun z hz => by
  obtain ⟨y, hy, _, he⟩ := same_eras h z hz
  obtain ⟨x, hx, rfl⟩ := List.mem_map.1 (show y ∈ s.zones.map (mapE G) from hy)
  exact ⟨x, hx, by rw [he]; simp [mapE]⟩
theorem big_nil {t : SV} (h : sSame14 t nilS) : big14 t := by
  have hl := same_lens h
  refine ⟨by rw [hl.1]; decide, by rw [hl.2.1]; decide, by rw [hl.2.2.1]; decide, by rw [hl.2.2.2]; decide, fun z hz => ?_⟩
  obtain ⟨y, hy, _⟩ := same_eras h z hz
  cases hy
theorem Res30.one {F : EV → ByteArray × Int} {s t : SV} {m : Int} {nm : ByteArray} {eA : Option Addr} {ec : Nat} {e : EV} (h : Res30 F s t m) (hz : s.zones = [⟨nm, eA, ec, [e]⟩]) : m = (F e).2 := h.err.uniq (ErrIs.one hz)
end Go.Proofs.YtlideagcmhlkeaaDoor
