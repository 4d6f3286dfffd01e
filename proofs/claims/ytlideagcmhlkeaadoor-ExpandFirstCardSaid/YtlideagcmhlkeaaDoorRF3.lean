/- Texts of one proof, one behind the other: Rinv; Store30; RinvB; Grow30; One30; Clone30; Each30; Store30b. -/
import Derived.Test.YtlideagcmhlkeaaDoorRF2
import Derived.Orders
import Derived.Deep.RegionHeld
import Derived.BigRegion
import Derived.IntWalk
import Derived.Lib.SliceRun

/- A law on regions that draw their order, by what each operation leaves: each operation is walked once, whatever the order. No function of the program. -/
namespace Go.Proofs.YtlideagcmhlkeaaDoor
open Go
set_option linter.unusedVariables false

/-- what must stand ahead of operation i -/
def rdeps (ops : Array Oper) (i : Nat) : List Nat := match ops[i]? with
  | some o => (o.after.toList.filter (Region.binds .any)).map (·.on)
  | none => []
def rdst (ops : Array Oper) (i : Nat) : Option Nat := (ops[i]?).bind (·.dst)
def upd (y : Nat → Value) (d : Option Nat) (v : Value) : Nat → Value := match d with
  | some d => fun k => if k = d then v else y k
  | none => y
theorem ready_spec {ops : Array Oper} {listed : Array Bool} {i : Nat} (h : i ∈ Region.ready .any ops listed) : i < ops.size ∧ listed.getD i true = false ∧ ∀ d ∈ rdeps ops i, listed.getD d false = true := by
  unfold Region.ready at h
  rw [List.mem_filter, List.mem_range] at h
  obtain ⟨h1, h2⟩ := h
  rw [Array.getElem?_eq_getElem h1] at h2
  simp only [Option.map_some, Option.getD_some, Bool.and_eq_true, Bool.not_eq_true', Array.all_eq_true_iff_forall_mem, Bool.or_eq_true] at h2
  refine ⟨h1, h2.1, fun d hd => ?_⟩
  unfold rdeps at hd
  rw [Array.getElem?_eq_getElem h1] at hd
  simp only [List.mem_map, List.mem_filter, Array.mem_toList_iff] at hd
  obtain ⟨e, ⟨he, hb⟩, rfl⟩ := hd
  rcases h2.2 e he with q | q
  · rw [hb] at q; cases q
  · exact q
theorem ready_of {ops : Array Oper} {listed : Array Bool} {i : Nat} (h1 : i < ops.size) (h2 : listed.getD i true = false) (h3 : ∀ d ∈ rdeps ops i, listed.getD d false = true) : i ∈ Region.ready .any ops listed := by
  unfold Region.ready
  rw [List.mem_filter, List.mem_range]
  refine ⟨h1, ?_⟩
  rw [Array.getElem?_eq_getElem h1]
  simp only [Option.map_some, Option.getD_some, Bool.and_eq_true, Bool.not_eq_true', Array.all_eq_true_iff_forall_mem, Bool.or_eq_true]
  refine ⟨h2, fun e he => ?_⟩
  by_cases hb : Region.binds .any e = true
  · refine .inr (h3 e.on ?_)
    unfold rdeps
    rw [Array.getElem?_eq_getElem h1]
    simp only [List.mem_map, List.mem_filter, Array.mem_toList_iff]
    exact ⟨e, ⟨he, hb⟩, rfl⟩
  · exact .inl (by simpa using hb)
/-- the operations of which nothing is left open stand ahead of it -/
theorem all_listed {ops : Array Oper} {listed : Array Bool} (hs : listed.size = ops.size) (hlt : ∀ i, i < ops.size → ∀ d ∈ rdeps ops i, d < i) (h : Region.ready .any ops listed = []) : ∀ i, i < ops.size → listed.getD i false = true := by
  intro i
  induction i using Nat.strongRecOn with
  | ind i ih =>
    intro hi
    cases q : listed.getD i false with
    | true => rfl
    | false =>
      have q' : listed.getD i true = false := by
        rw [Array.getD_eq_getD_getElem?, Array.getElem?_eq_getElem (by omega)] at q ⊢
        exact q
      have := ready_of hi q' fun d hd => ih d (hlt i hi d hd) (Nat.lt_trans (hlt i hi d hd) hi)
      rw [h] at this; cases this

section
variable {P : Program} {ops : Array Oper} {Q : Exit → Act → World → Prop}
def unl (listed : Array Bool) : Nat := (listed.toList.filter (fun b => !b)).length
theorem unl_set {listed : Array Bool} {i : Nat} (h : listed.getD i true = false) : unl (listed.setIfInBounds i true) + 1 = unl listed := by
  unfold unl
  rw [Array.toList_setIfInBounds]
  rw [Array.getD_eq_getD_getElem?, ← Array.getElem?_toList] at h
  generalize listed.toList = l at h ⊢
  induction l generalizing i with
  | nil => simp at h
  | cons b l ih =>
    cases i with
    | zero =>
      simp at h
      subst h
      simp
    | succ i =>
      rw [List.getElem?_cons_succ] at h
      rw [List.set_cons_succ]
      cases b <;> simp [ih h]
theorem unl_zero {listed : Array Bool} (h : unl listed = 0) (i : Nat) : listed.getD i true = true := by
  unfold unl at h
  have := List.length_eq_zero_iff.1 h
  rw [List.filter_eq_nil_iff] at this
  rw [Array.getD_eq_getD_getElem?]
  cases q : listed[i]? with
  | none => rfl
  | some b =>
    have hb : b ∈ listed.toList := by rw [← Array.getElem?_toList] at q; exact List.mem_of_getElem? q
    have := this b hb
    simpa using this
/-- whatever the order, by an invariant -/
theorem wpAny_inv (I : Array Bool → Act → World → Prop) (hstep : ∀ listed a w i, I listed a w → i ∈ Region.ready .any ops listed → wpOp P ops Q i (fun a' w' => I (listed.setIfInBounds i true) a' w') a w)
    (hdone : ∀ listed a w, I listed a w → Region.ready .any ops listed = [] → Q .normal a w) : ∀ (fuel : Nat) (listed : Array Bool) (a : Act) (w : World), unl listed ≤ fuel → I listed a w → wpAny P .any ops Q fuel listed a w
  | 0, listed, a, w, hu, h => by
    have hr : Region.ready .any ops listed = [] := by
      apply List.eq_nil_iff_forall_not_mem.2
      intro i hi
      have h1 := (ready_spec hi).2.1
      rw [unl_zero (by omega) i] at h1; cases h1
    exact ⟨hr, hdone _ _ _ h hr⟩
  | fuel + 1, listed, a, w, hu, h => ⟨fun hr => hdone _ _ _ h hr, fun i hi => wpOp_mono (fun a' w' h' => wpAny_inv I hstep hdone fuel _ a' w' (by have := unl_set (ready_spec hi).2.1; omega) h') (hstep _ _ _ _ h hi)⟩

/-- what operation j has left: a value that is known ahead, or what X says -/
def Left17 (ops : Array Oper) (val : Nat → Option Value) (X : Nat → (Nat → Value) → World → Prop) (j : Nat) (y : Nat → Value) (w : World) : Prop :=
  match val j with
  | some v => ∀ d, rdst ops j = some d → y d = v
  | none => X j y w
theorem Left17.known {val : Nat → Option Value} {X : Nat → (Nat → Value) → World → Prop} {j : Nat} {y : Nat → Value} {w : World} (h : Left17 ops val X j y w) {v : Value} (hv : val j = some v) {d : Nat} (hd : rdst ops j = some d) : y d = v := by
  unfold Left17 at h; rw [hv] at h; exact h d hd
theorem Left17.other {val : Nat → Option Value} {X : Nat → (Nat → Value) → World → Prop} {j : Nat} {y : Nat → Value} {w : World} (h : Left17 ops val X j y w) (hv : val j = none) : X j y w := by
  unfold Left17 at h; rw [hv] at h; exact h
/-- THE LAW: each operation by itself, behind those that must stand ahead of it. fr: the frame by the slots that the region makes; val: the values known ahead; X: what the others leave, by the slots Kx; G: what a step may do to the world. -/
theorem wp_region_inv {id : Nat} {a : Act} {w : World} (fr : (Nat → Value) → Act) (y0 : Nat → Value) (val : Nat → Option Value) (X : Nat → (Nat → Value) → World → Prop) (Kx : Nat → List Nat) (G : World → World → Prop) (S : World → Prop)
    (hm : P.follows .mixedOrders = true) (ha : a = fr y0) (hS : S w.drew)
    (hlt : ∀ i, i < ops.size → ∀ d ∈ rdeps ops i, d < i)
    (hput : ∀ i d, i < ops.size → rdst ops i = some d → ∀ y v, (fr y).put (some d) v = fr (upd y (some d) v))
    (hloc : ∀ j, j < ops.size → val j = none → ∀ y y' w, (∀ k ∈ Kx j, y k = y' k) → X j y w → X j y' w)
    (hmono : ∀ j, j < ops.size → val j = none → (∃ i, i < ops.size ∧ i ≠ j ∧ i ∉ rdeps ops j) → ∀ y w w', G w w' → X j y w → X j y w')
    (hap : ∀ i j, i < ops.size → j < ops.size → i ≠ j → i ∉ rdeps ops j → ∀ d, rdst ops i = some d → (rdst ops j ≠ some d) ∧ (val j = none → d ∉ Kx j))
    (hstep : ∀ i, i < ops.size → ∀ o, ops[i]? = some o → ∀ y w, S w → (∀ d ∈ rdeps ops i, Left17 ops val X d y w) →
      ∀ K' : Act → World → Prop, Shut (∀ v a' w', a' = (fr y).put o.dst v → G w w' → S w' → (val i = some v ∨ (val i = none ∧ X i (upd y o.dst v) w')) → K' a' w') →
        if Region.wanted o (yielded ops (fr y).tmps) = true then Oper.wp P o (fr y) w K' Q else K' ((fr y).put o.dst undef) w)
    (hdone : ∀ y w, S w → (∀ j, j < ops.size → Left17 ops val X j y w) → Q .normal (fr y) w) : (Code.region id ops true).wp P Q a w := by
  refine wp_region_any hm ?_
  refine wpAny_inv (fun listed a w => listed.size = ops.size ∧ ∃ y, a = fr y ∧ S w ∧ (∀ j, listed.getD j false = true → j < ops.size ∧ Left17 ops val X j y w) ∧ ∀ j, listed.getD j false = true → ∀ d ∈ rdeps ops j, listed.getD d false = true) ?_ ?_ _ _ _ _ ?_ ?_
  · rintro listed a w i ⟨hsz, y, rfl, hSw, hl, hcl⟩ hi
    obtain ⟨h1, h2, h3⟩ := ready_spec hi
    have ho : ops[i]? = some (ops[i]'h1) := Array.getElem?_eq_getElem h1
    refine wpOp_step ho fun K' hK => ?_
    refine hstep i h1 _ ho y w hSw (fun d hd => (hl d (h3 d hd)).2) K' ?_
    intro v a' w' ha' hG hS' hnew
    refine hK _ _ ⟨by rw [Array.size_setIfInBounds]; exact hsz, upd y (ops[i]'h1).dst v, ?_, hS', ?_, ?_⟩
    · rw [ha']
      cases hd : (ops[i]'h1).dst with
      | none => rfl
      | some d => exact hput i d h1 (by unfold rdst; rw [ho]; exact hd) y v
    · intro j hj
      by_cases hij : j = i
      · subst hij
        refine ⟨h1, ?_⟩
        unfold Left17
        rcases hnew with hv | ⟨hv, hx⟩
        · rw [hv]
          intro d hd
          have hd' : (ops[j]'h1).dst = some d := by unfold rdst at hd; rw [ho] at hd; exact hd
          rw [hd']
          show (if d = d then v else y d) = v
          rw [if_pos rfl]
        · rw [hv]; exact hx
      · have hj' : listed.getD j false = true := by
          rw [Array.getD_eq_getD_getElem?, Array.getElem?_setIfInBounds, if_neg (fun q => hij q.symm)] at hj
          rw [Array.getD_eq_getD_getElem?]; exact hj
        obtain ⟨hjn, hf⟩ := hl j hj'
        have hni : i ∉ rdeps ops j := fun q => by
          have := hcl j hj' i q
          rw [Array.getD_eq_getD_getElem?] at this h2
          cases e : listed[i]? with
          | none => rw [e] at this; cases this
          | some b => rw [e] at this h2; simp at this h2; rw [this] at h2; cases h2
        refine ⟨hjn, ?_⟩
        cases hd : (ops[i]'h1).dst with
        | none =>
          unfold Left17 at hf ⊢
          cases hv : val j with
          | some u => rw [hv] at hf; exact hf
          | none => rw [hv] at hf; exact hmono j hjn hv ⟨i, h1, fun q => hij q.symm, hni⟩ y w w' hG hf
        | some d =>
          obtain ⟨a1, a2⟩ := hap i j h1 hjn (fun q => hij q.symm) hni d (by unfold rdst; rw [ho]; exact hd)
          unfold Left17 at hf ⊢
          cases hv : val j with
          | some u =>
            rw [hv] at hf
            intro d' hd'
            have hne : d' ≠ d := fun q => a1 (by rw [hd', q])
            show (if d' = d then v else y d') = u
            rw [if_neg hne]; exact hf d' hd'
          | none =>
            rw [hv] at hf
            refine hloc j hjn hv y _ w' (fun k hk => ?_) (hmono j hjn hv ⟨i, h1, fun q => hij q.symm, hni⟩ y w w' hG hf)
            have hne : k ≠ d := fun q => a2 hv (by rw [← q]; exact hk)
            show y k = if k = d then v else y k
            rw [if_neg hne]
    · intro j hj d hd
      have key : ∀ k, listed.getD k false = true → (listed.setIfInBounds i true).getD k false = true := fun k hk => by
        rw [Array.getD_eq_getD_getElem?] at hk ⊢
        rw [Array.getElem?_setIfInBounds]
        split
        · split
          · rfl
          · rename_i q1 q2; subst q1; rw [Array.getElem?_eq_none (by omega)] at hk; cases hk
        · exact hk
      by_cases hij : j = i
      · subst hij; exact key d (h3 d hd)
      · have hj' : listed.getD j false = true := by
          rw [Array.getD_eq_getD_getElem?, Array.getElem?_setIfInBounds, if_neg (fun q => hij q.symm)] at hj
          rw [Array.getD_eq_getD_getElem?]; exact hj
        exact key d (hcl j hj' d hd)
  · rintro listed a w ⟨hsz, y, rfl, hSw, hl, _⟩ hr
    exact hdone y w hSw fun j hj => (hl j (all_listed hsz hlt hr j hj)).2
  · unfold unl
    rw [Array.toList_replicate]
    simp
  · refine ⟨Array.size_replicate, y0, ha, hS, fun j hj => ?_, fun j hj => ?_⟩
    all_goals
      rw [Array.getD_eq_getD_getElem?, Array.getElem?_replicate] at hj
      split at hj <;> cases hj
/-- slots and what must stand ahead, read off the operations -/
def shapeOf (ops : List Oper) : List (Option Nat × List Nat) := ops.map fun o => (o.dst, (o.after.toList.filter (Region.binds .any)).map (·.on))
def sdst (sh : List (Option Nat × List Nat)) (i : Nat) : Option Nat := (sh.getD i (none, [])).1
def sdeps (sh : List (Option Nat × List Nat)) (i : Nat) : List Nat := (sh.getD i (none, [])).2
theorem rdst_shape {l : List Oper} {sh : List (Option Nat × List Nat)} (h : shapeOf l = sh) (i : Nat) : rdst l.toArray i = sdst sh i := by
  subst h
  unfold rdst sdst shapeOf
  rw [List.getD_eq_getElem?_getD, List.getElem?_map, List.getElem?_toArray]
  cases l[i]? <;> rfl
theorem rdeps_shape {l : List Oper} {sh : List (Option Nat × List Nat)} (h : shapeOf l = sh) (i : Nat) : rdeps l.toArray i = sdeps sh i := by
  subst h
  unfold rdeps sdeps shapeOf
  rw [List.getD_eq_getElem?_getD, List.getElem?_map, List.getElem?_toArray]
  cases l[i]? <;> rfl
/-- each stands behind those ahead of it; no two write one slot, nor one that another's facts speak of -/
def shapeOk (sh : List (Option Nat × List Nat)) (sp : Nat → Bool) (Kx : Nat → List Nat) : Bool :=
  (List.range sh.length).all fun i => (sdeps sh i).all (fun d => decide (d < i)) && (List.range sh.length).all fun j => (i == j) || (sdeps sh j).contains i || match sdst sh i with
    | none => true
    | some d => (sdst sh j != some d) && (!sp j || !(Kx j).contains d)
/-- what operation j has left, by the shape -/
def LeftS (sh : List (Option Nat × List Nat)) (val : Nat → Option Value) (X : Nat → (Nat → Value) → World → Prop) (j : Nat) (y : Nat → Value) (w : World) : Prop :=
  match val j with
  | some v => ∀ d, sdst sh j = some d → y d = v
  | none => X j y w
theorem LeftS.of {l : List Oper} {sh : List (Option Nat × List Nat)} (hsh : shapeOf l = sh) {val : Nat → Option Value} {X : Nat → (Nat → Value) → World → Prop} {j : Nat} {y : Nat → Value} {w : World} (h : Left17 l.toArray val X j y w) : LeftS sh val X j y w := by
  unfold Left17 at h
  unfold LeftS
  cases hv : val j with
  | none => rw [hv] at h; exact h
  | some v => rw [hv] at h; exact fun d hd => h d (by rw [rdst_shape hsh]; exact hd)
/-- all others stand ahead of operation j -/
def lastB (sh : List (Option Nat × List Nat)) (j : Nat) : Bool := (List.range sh.length).all fun i => (i == j) || (sdeps sh j).contains i
def valOf (sp : Nat → Bool) (vals : List Value) (j : Nat) : Option Value := if sp j = true then none else some (vals.getD j undef)
/-- a step of the law: operation i alone -/
def StepOk (P : Program) (ops : Array Oper) (Q : Exit → Act → World → Prop) (fr : (Nat → Value) → Act) (sh : List (Option Nat × List Nat)) (sp : Nat → Bool) (vals : List Value) (X : Nat → (Nat → Value) → World → Prop) (G : World → World → Prop) (S : World → Prop) (i : Nat) (o : Oper) : Prop :=
  ∀ y w, S w → (∀ d, (sdeps sh i).contains d = true → LeftS sh (valOf sp vals) X d y w) →
    ∀ K' : Act → World → Prop, Shut (∀ v a' w', a' = (fr y).put o.dst v → G w w' → S w' → (valOf sp vals i = some v ∨ (valOf sp vals i = none ∧ X i (upd y o.dst v) w')) → K' a' w') →
      if Region.wanted o (yielded ops (fr y).tmps) = true then Oper.wp P o (fr y) w K' Q else K' ((fr y).put o.dst undef) w
def StepsOk (P : Program) (ops : Array Oper) (Q : Exit → Act → World → Prop) (fr : (Nat → Value) → Act) (sh : List (Option Nat × List Nat)) (sp : Nat → Bool) (vals : List Value) (X : Nat → (Nat → Value) → World → Prop) (G : World → World → Prop) (S : World → Prop) (i : Nat) (l : List Oper) : Prop :=
  ∀ k o, l[k]? = some o → StepOk P ops Q fr sh sp vals X G S (i + k) o
section
variable {fr : (Nat → Value) → Act} {sh : List (Option Nat × List Nat)} {sp : Nat → Bool} {vals : List Value} {X : Nat → (Nat → Value) → World → Prop} {G : World → World → Prop} {S : World → Prop}
theorem StepsOk.nil {i : Nat} : StepsOk P ops Q fr sh sp vals X G S i [] := fun k o h => by simp at h
theorem StepsOk.cons {i : Nat} {o : Oper} {l : List Oper} (h : StepOk P ops Q fr sh sp vals X G S i o) (hl : StepsOk P ops Q fr sh sp vals X G S (i + 1) l) : StepsOk P ops Q fr sh sp vals X G S i (o :: l) := fun k o' ho => by
  cases k with
  | zero => rw [List.getElem?_cons_zero] at ho; injection ho with ho; subst ho; exact h
  | succ k =>
    rw [List.getElem?_cons_succ] at ho
    have := hl k o' ho
    rwa [show i + 1 + k = i + (k + 1) by omega] at this
/-- a step whose value is known ahead -/
theorem StepOk.known {i : Nat} {o : Oper} (hi : sp i = false) (h : ∀ y w, S w → (∀ d, (sdeps sh i).contains d = true → LeftS sh (valOf sp vals) X d y w) →
    ∀ K' : Act → World → Prop, Shut (∀ a' w', a' = (fr y).put o.dst (vals.getD i undef) → G w w' → S w' → K' a' w') →
      if Region.wanted o (yielded ops (fr y).tmps) = true then Oper.wp P o (fr y) w K' Q else K' ((fr y).put o.dst undef) w) : StepOk P ops Q fr sh sp vals X G S i o :=
  fun y w hS hd K' hK => h y w hS hd K' fun a' w' ha hG hS' => hK _ a' w' ha hG hS' (.inl (by unfold valOf; rw [if_neg (by rw [hi]; decide)]))
/-- a step whose value is not known ahead -/
theorem StepOk.other {i : Nat} {o : Oper} (hi : sp i = true) (h : ∀ y w, S w → (∀ d, (sdeps sh i).contains d = true → LeftS sh (valOf sp vals) X d y w) →
    ∀ K' : Act → World → Prop, Shut (∀ v a' w', a' = (fr y).put o.dst v → G w w' → S w' → X i (upd y o.dst v) w' → K' a' w') →
      if Region.wanted o (yielded ops (fr y).tmps) = true then Oper.wp P o (fr y) w K' Q else K' ((fr y).put o.dst undef) w) : StepOk P ops Q fr sh sp vals X G S i o :=
  fun y w hS hd K' hK => h y w hS hd K' fun v a' w' ha hG hS' hx => hK v a' w' ha hG hS' (.inr ⟨by unfold valOf; rw [if_pos hi], hx⟩)
end
/-- THE LAW, by the shape -/
theorem wp_region_shape {id : Nat} {l : List Oper} {Q : Exit → Act → World → Prop} {a : Act} {w : World} (sh : List (Option Nat × List Nat)) (fr : (Nat → Value) → Act) (y0 : Nat → Value) (sp : Nat → Bool) (vals : List Value) (X : Nat → (Nat → Value) → World → Prop) (Kx : Nat → List Nat) (G : World → World → Prop) (S : World → Prop)
    (hm : P.follows .mixedOrders = true) (hsh : shapeOf l = sh) (hok : shapeOk sh sp Kx = true) (ha : a = fr y0) (hS : S w.drew)
    (hput : ∀ d ∈ sh.filterMap (·.1), ∀ y v, (fr y).put (some d) v = fr (upd y (some d) v))
    (hloc : ∀ j, sp j = true → ∀ y y' w, (∀ k ∈ Kx j, y k = y' k) → X j y w → X j y' w)
    (hmono : ∀ j, sp j = true → lastB sh j = false → ∀ y w w', G w w' → X j y w → X j y w')
    (hstep : StepsOk P l.toArray Q fr sh sp vals X G S 0 l)
    (hdone : ∀ y w, S w → (∀ j, j < sh.length → LeftS sh (valOf sp vals) X j y w) → Q .normal (fr y) w) : (Code.region id l.toArray true).wp P Q a w := by
  have hlen : l.length = sh.length := by rw [← hsh]; unfold shapeOf; rw [List.length_map]
  have hsz : l.toArray.size = sh.length := by rw [List.size_toArray, hlen]
  have hsp : ∀ j, valOf sp vals j = none → sp j = true := fun j h => by
    unfold valOf at h; split at h
    · assumption
    · cases h
  have hok' := hok
  unfold shapeOk at hok'
  rw [List.all_eq_true] at hok'
  refine wp_region_inv fr y0 (valOf sp vals) X Kx G S hm ha hS ?_ ?_ ?_ ?_ ?_ ?_ ?_
  · intro i hi d hd
    rw [hsz] at hi
    rw [rdeps_shape hsh] at hd
    have := hok' i (List.mem_range.2 hi)
    rw [Bool.and_eq_true, List.all_eq_true] at this
    exact of_decide_eq_true (this.1 d hd)
  · intro i d hi hd y v
    rw [rdst_shape hsh] at hd
    refine hput d (List.mem_filterMap.2 ⟨sh.getD i (none, []), ?_, hd⟩) y v
    rw [hsz] at hi
    rw [List.getD_eq_getElem?_getD, List.getElem?_eq_getElem hi]
    exact List.getElem_mem _
  · intro j _ hv; exact hloc j (hsp j hv)
  · intro j _ hv ⟨i, hi, hij, hni⟩
    refine hmono j (hsp j hv) ?_
    unfold lastB
    rw [List.all_eq_false]
    refine ⟨i, List.mem_range.2 (by rw [← hsz]; exact hi), ?_⟩
    rw [rdeps_shape hsh] at hni
    simp [hij, hni]
  · intro i j hi hj hij hni d hd
    rw [hsz] at hi hj
    rw [rdeps_shape hsh] at hni
    rw [rdst_shape hsh] at hd ⊢
    have := hok' i (List.mem_range.2 hi)
    rw [Bool.and_eq_true, List.all_eq_true, List.all_eq_true] at this
    have q := this.2 j (List.mem_range.2 hj)
    rw [hd] at q
    simp only [Bool.or_eq_true, beq_iff_eq, Bool.and_eq_true, bne_iff_ne, Bool.not_eq_true', List.contains_iff_mem] at q
    rcases q with (q | q) | ⟨q1, q2⟩
    · exact absurd q hij
    · exact absurd q hni
    · refine ⟨q1, fun hv hk => ?_⟩
      rcases q2 with q2 | q2
      · rw [hsp j hv] at q2; cases q2
      · rw [List.contains_iff_mem.2 hk] at q2; cases q2
  · intro i hi o ho y w hSw hd K' hK
    have hs := hstep i o (by rw [List.getElem?_toArray] at ho; exact ho)
    rw [Nat.zero_add] at hs
    exact hs y w hSw (fun d hd' => LeftS.of hsh (hd d (by rw [rdeps_shape hsh]; exact List.contains_iff_mem.1 hd'))) K' hK
  · intro y w hSw h
    exact hdone y w hSw fun j hj => LeftS.of hsh (h j (by rw [hsz]; exact hj))
/-- a fact that an operation has left -/
theorem LeftS.val {sh : List (Option Nat × List Nat)} {sp : Nat → Bool} {vals : List Value} {X : Nat → (Nat → Value) → World → Prop} {j : Nat} {y : Nat → Value} {w : World} (h : LeftS sh (valOf sp vals) X j y w) {d : Nat} (hj : sp j = false) (hd : sdst sh j = some d) : y d = vals.getD j undef := by
  unfold LeftS valOf at h
  rw [if_neg (by rw [hj]; decide)] at h
  exact h d hd
theorem LeftS.ex {sh : List (Option Nat × List Nat)} {sp : Nat → Bool} {vals : List Value} {X : Nat → (Nat → Value) → World → Prop} {j : Nat} {y : Nat → Value} {w : World} (h : LeftS sh (valOf sp vals) X j y w) (hj : sp j = true) : X j y w := by
  unfold LeftS valOf at h
  rw [if_pos hj] at h
  exact h
end
end Go.Proofs.YtlideagcmhlkeaaDoor

/- What the steps of a drawn region keep that makes a source: rows of its own, and the box of the source. No function of the program. -/
namespace Go.Proofs.YtlideagcmhlkeaaDoor
open Go.RowKit
set_option linter.unusedVariables false

/-- blocks that hold no source stay as they are; boxes of sources stay boxes of sources -/
structure GS (W W' : World) : Prop where
  far : ∀ (g : Nat) (e : TypeId) (cur : Array Value), e ≠ 32 → W.heap[g]? = some (.cells cur e (0, 0)) → W'.heap[g]? = some (.cells cur e (0, 0))
  own : ∀ g, (∃ a b c d, Blk W g 32 #[a, b, c, d]) → ∃ a b c d, Blk W' g 32 #[a, b, c, d]
theorem GS.refl (W : World) : GS W W := ⟨fun _ _ _ _ h => h, fun _ h => h⟩
theorem GS.below {W W' : World} (h : Below W.heap.size W W') : GS W W' :=
  ⟨fun g e cur _ hb => (h.block g (Array.getElem?_eq_some_iff.1 hb).1).trans hb, fun g ⟨a, b, c, d, hb⟩ => ⟨a, b, c, d, hb.below h hb.lt⟩⟩
theorem GS.alloc (W : World) (ob : Obj) : GS W (W.alloc ob) := GS.below ((Below.refl _ W).alloc (Nat.le_refl _) ob)
theorem GS.trans {A B C : World} (h : GS A B) (k : GS B C) : GS A C := ⟨fun g e cur he hb => k.far g e cur he (h.far g e cur he hb), fun g hb => k.own g (h.own g hb)⟩
theorem GS.set_ {W : World} {g : Nat} {a b c d : Value} (hb : Blk W g 32 #[a, b, c, d]) (n : Nat) (u : Value) : GS W (W.setCell ⟨g, n, none⟩ u) := by
  refine ⟨fun g' e cur he h' => (Below.heap_setCell W _ u g' (fun q => he ?_)).trans h', fun g' ⟨a', b', c', d', hb'⟩ => ?_⟩
  · have q' : g' = g := q
    subst q'
    unfold Blk at hb
    rw [hb] at h'
    injection h' with h'
    injection h' with _ h' _
    exact h'.symm
  · by_cases q : g' = g
    · subst q
      have := hb.set_ n u
      match n with
      | 0 | 1 | 2 | 3 => exact ⟨_, _, _, _, this⟩
      | n + 4 =>
        rw [Array.setIfInBounds, dif_neg (by simp)] at this
        exact ⟨_, _, _, _, this⟩
    · exact ⟨a', b', c', d', hb'.far q u⟩
theorem GS.row {α : Type} {W W' : World} {base : Nat} {e : TypeId} {m : Nat} {f : α → List Value} {A : Option Addr} {c : Nat} {L : List α} (hg : GS W W') (he : e ≠ 32) (h : RowOf W base e m f A c L) : RowOf W' base e m f A c L := by
  refine ⟨h.1, ?_⟩
  rcases h.2 with q | ⟨g, cap, cur, hv, hb, hh, hr⟩
  · exact .inl q
  · exact .inr ⟨g, cap, cur, hv, hb, hg.far g e cur he hh, hr⟩
theorem GS.zones {W W' : World} {base : Nat} {Z Y : List ZV} (hg : GS W W') (h : ZonesIn W base Z Y) : ZonesIn W' base Z Y := ⟨h.same, fun i y hy => hg.row (by decide) (h.eras i y hy), h.apart⟩
theorem passS {W W' : World} {p : Nat → Prop} (hg : GS W W') (h : ∃ g, p g ∧ ∃ a b c d, Blk W g 32 #[a, b, c, d]) : ∃ g, p g ∧ ∃ a b c d, Blk W' g 32 #[a, b, c, d] := by
  obtain ⟨g, h1, h3⟩ := h
  exact ⟨g, h1, hg.own g h3⟩
theorem passR {α : Type} {W W' : World} {base : Nat} {e : TypeId} {m : Nat} {f : α → List Value} {L : List α} {p : Option Addr → Nat → Prop} (hg : GS W W') (he : e ≠ 32) (h : ∃ A c, p A c ∧ RowOf W base e m f A c L) : ∃ A c, p A c ∧ RowOf W' base e m f A c L := by
  obtain ⟨A, c, h1, h2⟩ := h
  exact ⟨A, c, h1, hg.row he h2⟩
theorem GS.setHi {A B : World} (h : GS A B) {g n : Nat} (hg : A.heap.size ≤ g) (u : Value) : GS A (B.setCell ⟨g, n, none⟩ u) :=
  ⟨fun g' e cur he hb => (Below.heap_setCell B _ u g' (by have := (Array.getElem?_eq_some_iff.1 hb).1; show g' ≠ g; omega)).trans (h.far g' e cur he hb), fun g' hb => by
    obtain ⟨a, b, c, d, hq⟩ := h.own g' hb
    obtain ⟨_, _, _, _, hq0⟩ := hb
    exact ⟨a, b, c, d, hq.far (by have := hq0.lt; show g' ≠ g; omega) u⟩⟩
/-- a source that boxes of sources can be written beside -/
def SrcG (W : World) (t : SV) : Prop := ∀ W', GS W W' → SrcIn W' t
theorem SrcG.src {W : World} {t : SV} (h : SrcG W t) : SrcIn W t := h W (GS.refl W)
theorem SrcG.step {W W' : World} {t : SV} (h : SrcG W t) (hg : GS W W') : SrcG W' t := fun V hv => h V (hg.trans hv)
theorem SrcG.below {W W' : World} {t : SV} (h : SrcG W t) (hb : Below W.heap.size W W') : SrcG W' t := h.step (GS.below hb)
/-- a whole source is written into its box -/
theorem GS.set4 {W : World} {g : Nat} {a b c d : Value} (hb : Blk W g 32 #[a, b, c, d]) (a' b' c' d' : Value) : GS W ((((W.setCell ⟨g, 0, none⟩ a').setCell ⟨g, 1, none⟩ b').setCell ⟨g, 2, none⟩ c').setCell ⟨g, 3, none⟩ d') ∧ Blk ((((W.setCell ⟨g, 0, none⟩ a').setCell ⟨g, 1, none⟩ b').setCell ⟨g, 2, none⟩ c').setCell ⟨g, 3, none⟩ d') g 32 #[a', b', c', d'] := by
  have t1 : Blk _ g 32 #[a', b, c, d] := hb.set_ 0 a'
  have t2 : Blk _ g 32 #[a', b', c, d] := t1.set_ 1 b'
  have t3 : Blk _ g 32 #[a', b', c', d] := t2.set_ 2 c'
  exact ⟨(GS.set_ hb 0 a').trans ((GS.set_ t1 1 b').trans ((GS.set_ t2 2 c').trans (GS.set_ t3 3 d'))), t3.set_ 3 d'⟩
theorem below_set4 {n : Nat} {w W : World} (h : Below n w W) {g : Nat} (hg : n ≤ g) (a b c d : Value) : Below n w ((((W.setCell ⟨g, 0, none⟩ a).setCell ⟨g, 1, none⟩ b).setCell ⟨g, 2, none⟩ c).setCell ⟨g, 3, none⟩ d) :=
  (((h.setCell (p := ⟨g, 0, none⟩) hg a).setCell (p := ⟨g, 1, none⟩) hg b).setCell (p := ⟨g, 2, none⟩) hg c).setCell (p := ⟨g, 3, none⟩) hg d
/-- a literal of no elements -/
def Lit0 (W : World) (base : Nat) (e : TypeId) (m : Nat) (v : Value) : Prop := ∃ B, v = .slice (some ⟨B, 0, none⟩) 0 0 ∧ W.ownsRow base e m (.slice (some ⟨B, 0, none⟩) 0 0) 0 []
theorem Lit0.pass {W W' : World} {base : Nat} {e : TypeId} {m : Nat} {v : Value} (hg : GS W W') (he : e ≠ 32) (h : Lit0 W base e m v) : Lit0 W' base e m v := by
  obtain ⟨B, h1, h2⟩ := h
  refine ⟨B, h1, h2.1, ?_⟩
  rcases h2.2 with q | ⟨g, cap, cur, hv, hb, hh, hr⟩
  · exact .inl q
  · exact .inr ⟨g, cap, cur, hv, hb, hg.far g e cur he hh, hr⟩
theorem Lit0.made {base : Nat} {e : TypeId} {m : Nat} (W : World) (hb : base ≤ W.heap.size) : Lit0 (W.alloc (.cells #[] e)) base e m (.slice (some ⟨W.heap.size, 0, none⟩) 0 0) := ⟨_, rfl, World.ownsRow_made W #[] 0 hb (Nat.zero_le _) (by simp)⟩
theorem CopyOf.gs {W W' : World} {base : Nat} {s t : SV} (h : CopyOf W base s t) (hg : GS W W') : CopyOf W' base s t :=
  ⟨⟨h.rules.1, hg.row (by decide) h.rules.2⟩, ⟨hg.row (by decide) h.zones.1, hg.zones h.zones.2⟩, ⟨h.links.1, hg.row (by decide) h.links.2⟩, ⟨h.shifts.1, hg.row (by decide) h.shifts.2⟩⟩
/-- a row of one call's own, for one that began earlier -/
theorem RowOf.low {α : Type} {W : World} {b b' : Nat} {e : TypeId} {m : Nat} {f : α → List Value} {A : Option Addr} {c : Nat} {L : List α} (h : RowOf W b e m f A c L) (hb : b' ≤ b) : RowOf W b' e m f A c L := own_base h hb
end Go.Proofs.YtlideagcmhlkeaaDoor

/- The law on regions that draw their order (Rinv), with one operation that parts the region: what holds ahead of it and behind it may differ. No function of the program. -/
namespace Go.Proofs.YtlideagcmhlkeaaDoor
open Go
set_option linter.unusedVariables false

section
variable {P : Program} {ops : Array Oper} {Q : Exit → Act → World → Prop}
/-- THE LAW with one operation (q) that parts the region in two: what holds ahead of it and behind it may differ. Each operation by itself, behind those that must stand ahead of it. fr: the frame by the slots that the region makes; val: the values known ahead; X: what the others leave, by the slots Kx; G: what a step may do to the world. -/
theorem wp_region_invB {id : Nat} {a : Act} {w : World} (fr : (Nat → Value) → Act) (y0 : Nat → Value) (val : Nat → Option Value) (X : Nat → (Nat → Value) → World → Prop) (Kx : Nat → List Nat) (q : Nat) (G : Bool → World → World → Prop) (S : Bool → World → Prop)
    (hm : P.follows .mixedOrders = true) (ha : a = fr y0) (hS : S false w.drew)
    (hlt : ∀ i, i < ops.size → ∀ d ∈ rdeps ops i, d < i)
    (hput : ∀ i d, i < ops.size → rdst ops i = some d → ∀ y v, (fr y).put (some d) v = fr (upd y (some d) v))
    (hloc : ∀ j, j < ops.size → val j = none → ∀ y y' w, (∀ k ∈ Kx j, y k = y' k) → X j y w → X j y' w)
    (hmono : ∀ j, j < ops.size → val j = none → (∃ i, i < ops.size ∧ i ≠ j ∧ i ∉ rdeps ops j) → ∀ b, (j = q → b = true) → ∀ y w w', G b w w' → X j y w → X j y w')
    (hap : ∀ i j, i < ops.size → j < ops.size → i ≠ j → i ∉ rdeps ops j → ∀ d, rdst ops i = some d → (rdst ops j ≠ some d) ∧ (val j = none → d ∉ Kx j))
    (hstep : ∀ i, i < ops.size → ∀ o, ops[i]? = some o → ∀ y w b, ((i = q ∨ i ∈ rdeps ops q → b = false) ∧ (q ∈ rdeps ops i → b = true)) → S b w → (∀ d ∈ rdeps ops i, Left17 ops val X d y w) →
      ∀ K' : Act → World → Prop, Shut (∀ v a' w', a' = (fr y).put o.dst v → G b w w' → S (b || decide (i = q)) w' → (val i = some v ∨ (val i = none ∧ X i (upd y o.dst v) w')) → K' a' w') →
        if Region.wanted o (yielded ops (fr y).tmps) = true then Oper.wp P o (fr y) w K' Q else K' ((fr y).put o.dst undef) w)
    (hdone : ∀ y w, S (decide (q < ops.size)) w → (∀ j, j < ops.size → Left17 ops val X j y w) → Q .normal (fr y) w) : (Code.region id ops true).wp P Q a w := by
  refine wp_region_any hm ?_
  refine wpAny_inv (fun listed a w => listed.size = ops.size ∧ ∃ y, a = fr y ∧ S (listed.getD q false) w ∧ (∀ j, listed.getD j false = true → j < ops.size ∧ Left17 ops val X j y w) ∧ ∀ j, listed.getD j false = true → ∀ d ∈ rdeps ops j, listed.getD d false = true) ?_ ?_ _ _ _ _ ?_ ?_
  · rintro listed a w i ⟨hsz, y, rfl, hSw, hl, hcl⟩ hi
    obtain ⟨h1, h2, h3⟩ := ready_spec hi
    have ho : ops[i]? = some (ops[i]'h1) := Array.getElem?_eq_getElem h1
    refine wpOp_step ho fun K' hK => ?_
    have hfl : i = q ∨ i ∈ rdeps ops q → listed.getD q false = false := by
      rintro (e | e)
      · subst e
        rw [Array.getD_eq_getD_getElem?] at h2 ⊢
        cases e2 : listed[i]? with
        | none => rfl
        | some b => rw [e2] at h2; exact h2
      · cases hb : listed.getD q false with
        | false => rfl
        | true =>
          have := hcl q hb i e
          rw [Array.getD_eq_getD_getElem?] at this h2
          cases e2 : listed[i]? with
          | none => rw [e2] at this; cases this
          | some b => rw [e2] at this h2; simp at this h2; rw [this] at h2; cases h2
    refine hstep i h1 _ ho y w _ ⟨hfl, fun e => h3 q e⟩ hSw (fun d hd => (hl d (h3 d hd)).2) K' ?_
    intro v a' w' ha' hG hS' hnew
    have hflag : (listed.setIfInBounds i true).getD q false = (listed.getD q false || decide (i = q)) := by
      rw [Array.getD_eq_getD_getElem?, Array.getElem?_setIfInBounds]
      by_cases e : i = q
      · subst e
        rw [if_pos rfl, if_pos (by omega), decide_eq_true rfl, Bool.or_true]
        rfl
      · rw [if_neg e, decide_eq_false e, Bool.or_false, Array.getD_eq_getD_getElem?]
    refine hK _ _ ⟨by rw [Array.size_setIfInBounds]; exact hsz, upd y (ops[i]'h1).dst v, ?_, by rw [hflag]; exact hS', ?_, ?_⟩
    · rw [ha']
      cases hd : (ops[i]'h1).dst with
      | none => rfl
      | some d => exact hput i d h1 (by unfold rdst; rw [ho]; exact hd) y v
    · intro j hj
      by_cases hij : j = i
      · subst hij
        refine ⟨h1, ?_⟩
        unfold Left17
        rcases hnew with hv | ⟨hv, hx⟩
        · rw [hv]
          intro d hd
          have hd' : (ops[j]'h1).dst = some d := by unfold rdst at hd; rw [ho] at hd; exact hd
          rw [hd']
          show (if d = d then v else y d) = v
          rw [if_pos rfl]
        · rw [hv]; exact hx
      · have hj' : listed.getD j false = true := by
          rw [Array.getD_eq_getD_getElem?, Array.getElem?_setIfInBounds, if_neg (fun q => hij q.symm)] at hj
          rw [Array.getD_eq_getD_getElem?]; exact hj
        obtain ⟨hjn, hf⟩ := hl j hj'
        have hni : i ∉ rdeps ops j := fun q' => by
          have := hcl j hj' i q'
          rw [Array.getD_eq_getD_getElem?] at this h2
          cases e : listed[i]? with
          | none => rw [e] at this; cases this
          | some b => rw [e] at this h2; simp at this h2; rw [this] at h2; cases h2
        refine ⟨hjn, ?_⟩
        cases hd : (ops[i]'h1).dst with
        | none =>
          unfold Left17 at hf ⊢
          cases hv : val j with
          | some u => rw [hv] at hf; exact hf
          | none => rw [hv] at hf; exact hmono j hjn hv ⟨i, h1, fun q => hij q.symm, hni⟩ _ (fun e => by rw [← e]; exact hj') y w w' hG hf
        | some d =>
          obtain ⟨a1, a2⟩ := hap i j h1 hjn (fun q => hij q.symm) hni d (by unfold rdst; rw [ho]; exact hd)
          unfold Left17 at hf ⊢
          cases hv : val j with
          | some u =>
            rw [hv] at hf
            intro d' hd'
            have hne : d' ≠ d := fun q => a1 (by rw [hd', q])
            show (if d' = d then v else y d') = u
            rw [if_neg hne]; exact hf d' hd'
          | none =>
            rw [hv] at hf
            refine hloc j hjn hv y _ w' (fun k hk => ?_) (hmono j hjn hv ⟨i, h1, fun q => hij q.symm, hni⟩ _ (fun e => by rw [← e]; exact hj') y w w' hG hf)
            have hne : k ≠ d := fun q => a2 hv (by rw [← q]; exact hk)
            show y k = if k = d then v else y k
            rw [if_neg hne]
    · intro j hj d hd
      have key : ∀ k, listed.getD k false = true → (listed.setIfInBounds i true).getD k false = true := fun k hk => by
        rw [Array.getD_eq_getD_getElem?] at hk ⊢
        rw [Array.getElem?_setIfInBounds]
        split
        · split
          · rfl
          · rename_i q1 q2; subst q1; rw [Array.getElem?_eq_none (by omega)] at hk; cases hk
        · exact hk
      by_cases hij : j = i
      · subst hij; exact key d (h3 d hd)
      · have hj' : listed.getD j false = true := by
          rw [Array.getD_eq_getD_getElem?, Array.getElem?_setIfInBounds, if_neg (fun q => hij q.symm)] at hj
          rw [Array.getD_eq_getD_getElem?]; exact hj
        exact key d (hcl j hj' d hd)
  · rintro listed a w ⟨hsz, y, rfl, hSw, hl, _⟩ hr
    refine hdone y w ?_ fun j hj => (hl j (all_listed hsz hlt hr j hj)).2
    by_cases hq : q < ops.size
    · rw [all_listed hsz hlt hr q hq] at hSw
      rw [decide_eq_true hq]
      exact hSw
    · rw [Array.getD_eq_getD_getElem?, Array.getElem?_eq_none (by omega)] at hSw
      rw [decide_eq_false hq]
      exact hSw
  · unfold unl
    rw [Array.toList_replicate]
    simp
  · refine ⟨Array.size_replicate, y0, ha, ?_, fun j hj => ?_, fun j hj => ?_⟩
    · have : (Array.replicate ops.size false).getD q false = false := by
        rw [Array.getD_eq_getD_getElem?, Array.getElem?_replicate]
        split <;> rfl
      rw [this]
      exact hS
    all_goals
      rw [Array.getD_eq_getD_getElem?, Array.getElem?_replicate] at hj
      split at hj <;> cases hj
/-- a step of the law: operation i alone -/
def StepOkB (P : Program) (ops : Array Oper) (Q : Exit → Act → World → Prop) (fr : (Nat → Value) → Act) (sh : List (Option Nat × List Nat)) (sp : Nat → Bool) (vals : List Value) (X : Nat → (Nat → Value) → World → Prop) (q : Nat) (G : Bool → World → World → Prop) (S : Bool → World → Prop) (i : Nat) (o : Oper) : Prop :=
  ∀ y w b, ((i = q ∨ (sdeps sh q).contains i = true → b = false) ∧ ((sdeps sh i).contains q = true → b = true)) → S b w → (∀ d, (sdeps sh i).contains d = true → LeftS sh (valOf sp vals) X d y w) →
    ∀ K' : Act → World → Prop, Shut (∀ v a' w', a' = (fr y).put o.dst v → G b w w' → S (b || decide (i = q)) w' → (valOf sp vals i = some v ∨ (valOf sp vals i = none ∧ X i (upd y o.dst v) w')) → K' a' w') →
      if Region.wanted o (yielded ops (fr y).tmps) = true then Oper.wp P o (fr y) w K' Q else K' ((fr y).put o.dst undef) w
def StepsOkB (P : Program) (ops : Array Oper) (Q : Exit → Act → World → Prop) (fr : (Nat → Value) → Act) (sh : List (Option Nat × List Nat)) (sp : Nat → Bool) (vals : List Value) (X : Nat → (Nat → Value) → World → Prop) (q : Nat) (G : Bool → World → World → Prop) (S : Bool → World → Prop) (i : Nat) (l : List Oper) : Prop :=
  ∀ k o, l[k]? = some o → StepOkB P ops Q fr sh sp vals X q G S (i + k) o
section
variable {fr : (Nat → Value) → Act} {sh : List (Option Nat × List Nat)} {sp : Nat → Bool} {vals : List Value} {X : Nat → (Nat → Value) → World → Prop} {q : Nat} {G : Bool → World → World → Prop} {S : Bool → World → Prop}
theorem StepsOkB.nil {i : Nat} : StepsOkB P ops Q fr sh sp vals X q G S i [] := fun k o h => by simp at h
theorem StepsOkB.cons {i : Nat} {o : Oper} {l : List Oper} (h : StepOkB P ops Q fr sh sp vals X q G S i o) (hl : StepsOkB P ops Q fr sh sp vals X q G S (i + 1) l) : StepsOkB P ops Q fr sh sp vals X q G S i (o :: l) := fun k o' ho => by
  cases k with
  | zero => rw [List.getElem?_cons_zero] at ho; injection ho with ho; subst ho; exact h
  | succ k =>
    rw [List.getElem?_cons_succ] at ho
    have := hl k o' ho
    rwa [show i + 1 + k = i + (k + 1) by omega] at this
/-- a step whose value is known ahead -/
theorem StepOkB.known {i : Nat} {o : Oper} (hi : sp i = false) (h : ∀ y w b, ((i = q ∨ (sdeps sh q).contains i = true → b = false) ∧ ((sdeps sh i).contains q = true → b = true)) → S b w → (∀ d, (sdeps sh i).contains d = true → LeftS sh (valOf sp vals) X d y w) →
    ∀ K' : Act → World → Prop, Shut (∀ a' w', a' = (fr y).put o.dst (vals.getD i undef) → G b w w' → S (b || decide (i = q)) w' → K' a' w') →
      if Region.wanted o (yielded ops (fr y).tmps) = true then Oper.wp P o (fr y) w K' Q else K' ((fr y).put o.dst undef) w) : StepOkB P ops Q fr sh sp vals X q G S i o :=
  fun y w b hb hS hd K' hK => h y w b hb hS hd K' fun a' w' ha hG hS' => hK _ a' w' ha hG hS' (.inl (by unfold valOf; rw [if_neg (by rw [hi]; decide)]))
/-- a step whose value is not known ahead -/
theorem StepOkB.other {i : Nat} {o : Oper} (hi : sp i = true) (h : ∀ y w b, ((i = q ∨ (sdeps sh q).contains i = true → b = false) ∧ ((sdeps sh i).contains q = true → b = true)) → S b w → (∀ d, (sdeps sh i).contains d = true → LeftS sh (valOf sp vals) X d y w) →
    ∀ K' : Act → World → Prop, Shut (∀ v a' w', a' = (fr y).put o.dst v → G b w w' → S (b || decide (i = q)) w' → X i (upd y o.dst v) w' → K' a' w') →
      if Region.wanted o (yielded ops (fr y).tmps) = true then Oper.wp P o (fr y) w K' Q else K' ((fr y).put o.dst undef) w) : StepOkB P ops Q fr sh sp vals X q G S i o :=
  fun y w b hb hS hd K' hK => h y w b hb hS hd K' fun v a' w' ha hG hS' hx => hK v a' w' ha hG hS' (.inr ⟨by unfold valOf; rw [if_pos hi], hx⟩)
end
/-- THE LAW with one operation that parts the region, by the shape -/
theorem wp_region_shapeB {id : Nat} {l : List Oper} {Q : Exit → Act → World → Prop} {a : Act} {w : World} (sh : List (Option Nat × List Nat)) (fr : (Nat → Value) → Act) (y0 : Nat → Value) (sp : Nat → Bool) (vals : List Value) (X : Nat → (Nat → Value) → World → Prop) (Kx : Nat → List Nat) (q : Nat) (G : Bool → World → World → Prop) (S : Bool → World → Prop)
    (hm : P.follows .mixedOrders = true) (hsh : shapeOf l = sh) (hok : shapeOk sh sp Kx = true) (ha : a = fr y0) (hS : S false w.drew)
    (hput : ∀ d ∈ sh.filterMap (·.1), ∀ y v, (fr y).put (some d) v = fr (upd y (some d) v))
    (hloc : ∀ j, sp j = true → ∀ y y' w, (∀ k ∈ Kx j, y k = y' k) → X j y w → X j y' w)
    (hmono : ∀ j, sp j = true → lastB sh j = false → ∀ b, (j = q → b = true) → ∀ y w w', G b w w' → X j y w → X j y w')
    (hstep : StepsOkB P l.toArray Q fr sh sp vals X q G S 0 l)
    (hdone : ∀ y w, S (decide (q < sh.length)) w → (∀ j, j < sh.length → LeftS sh (valOf sp vals) X j y w) → Q .normal (fr y) w) : (Code.region id l.toArray true).wp P Q a w := by
  have hlen : l.length = sh.length := by rw [← hsh]; unfold shapeOf; rw [List.length_map]
  have hsz : l.toArray.size = sh.length := by rw [List.size_toArray, hlen]
  have hsp : ∀ j, valOf sp vals j = none → sp j = true := fun j h => by
    unfold valOf at h; split at h
    · assumption
    · cases h
  have hok' := hok
  unfold shapeOk at hok'
  rw [List.all_eq_true] at hok'
  refine wp_region_invB fr y0 (valOf sp vals) X Kx q G S hm ha hS ?_ ?_ ?_ ?_ ?_ ?_ ?_
  · intro i hi d hd
    rw [hsz] at hi
    rw [rdeps_shape hsh] at hd
    have := hok' i (List.mem_range.2 hi)
    rw [Bool.and_eq_true, List.all_eq_true] at this
    exact of_decide_eq_true (this.1 d hd)
  · intro i d hi hd y v
    rw [rdst_shape hsh] at hd
    refine hput d (List.mem_filterMap.2 ⟨sh.getD i (none, []), ?_, hd⟩) y v
    rw [hsz] at hi
    rw [List.getD_eq_getElem?_getD, List.getElem?_eq_getElem hi]
    exact List.getElem_mem _
  · intro j _ hv; exact hloc j (hsp j hv)
  · intro j _ hv ⟨i, hi, hij, hni⟩
    refine hmono j (hsp j hv) ?_
    unfold lastB
    rw [List.all_eq_false]
    refine ⟨i, List.mem_range.2 (by rw [← hsz]; exact hi), ?_⟩
    rw [rdeps_shape hsh] at hni
    simp [hij, hni]
  · intro i j hi hj hij hni d hd
    rw [hsz] at hi hj
    rw [rdeps_shape hsh] at hni
    rw [rdst_shape hsh] at hd ⊢
    have := hok' i (List.mem_range.2 hi)
    rw [Bool.and_eq_true, List.all_eq_true, List.all_eq_true] at this
    have qq := this.2 j (List.mem_range.2 hj)
    rw [hd] at qq
    simp only [Bool.or_eq_true, beq_iff_eq, Bool.and_eq_true, bne_iff_ne, Bool.not_eq_true', List.contains_iff_mem] at qq
    rcases qq with (qq | qq) | ⟨q1, q2⟩
    · exact absurd qq hij
    · exact absurd qq hni
    · refine ⟨q1, fun hv hk => ?_⟩
      rcases q2 with q2 | q2
      · rw [hsp j hv] at q2; cases q2
      · rw [List.contains_iff_mem.2 hk] at q2; cases q2
  · intro i hi o ho y w b hb hSw hd K' hK
    have hs := hstep i o (by rw [List.getElem?_toArray] at ho; exact ho)
    rw [Nat.zero_add] at hs
    exact hs y w b ⟨fun e => hb.1 (e.imp (fun x => x) fun e => by rw [rdeps_shape hsh]; exact List.contains_iff_mem.1 e), fun e => hb.2 (by rw [rdeps_shape hsh]; exact List.contains_iff_mem.1 e)⟩ hSw (fun d hd' => LeftS.of hsh (hd d (by rw [rdeps_shape hsh]; exact List.contains_iff_mem.1 hd'))) K' hK
  · intro y w hSw h
    exact hdone y w (by rw [← hsz]; exact hSw) fun j hj => LeftS.of hsh (h j (by rw [hsz]; exact hj))

end
end Go.Proofs.YtlideagcmhlkeaaDoor

/- What the steps keep of a drawn region in which a row of one type grows. No function of the program. -/
namespace Go.Proofs.YtlideagcmhlkeaaDoor
open Go.RowKit
set_option linter.unusedVariables false

/-- what a step keeps: blocks stay as they are but for boxes of sources and, ahead of the part, rows of one type below N -/
structure GT (T : TypeId) (N : Nat) (b : Bool) (W W' : World) : Prop where
  far : ∀ (g : Nat) (e : TypeId) (cur : Array Value), e ≠ 32 → (e ≠ T ∨ N ≤ g ∨ b = true) → W.heap[g]? = some (.cells cur e (0, 0)) → W'.heap[g]? = some (.cells cur e (0, 0))
  own : ∀ g, (∃ a b c d, Blk W g 32 #[a, b, c, d]) → ∃ a b c d, Blk W' g 32 #[a, b, c, d]
theorem GT.gs {T : TypeId} {N : Nat} (b : Bool) {W W' : World} (h : GS W W') : GT T N b W W' := ⟨fun g e cur he _ hb => h.far g e cur he hb, h.own⟩
theorem GT.refl (T : TypeId) (N : Nat) (b : Bool) (W : World) : GT T N b W W := GT.gs b (GS.refl W)
theorem GT.below {T : TypeId} {N : Nat} (b : Bool) {W W' : World} (h : Below W.heap.size W W') : GT T N b W W' := GT.gs b (GS.below h)
theorem GT.row {T : TypeId} {N : Nat} {b : Bool} {α : Type} {W W' : World} {base : Nat} {e : TypeId} {m : Nat} {f : α → List Value} {A : Option Addr} {c : Nat} {L : List α} (hg : GT T N b W W') (he : e ≠ 32) (hz : e ≠ T) (h : RowOf W base e m f A c L) : RowOf W' base e m f A c L := by
  refine ⟨h.1, ?_⟩
  rcases h.2 with q | ⟨g, cap, cur, hv, hb, hh, hr⟩
  · exact .inl q
  · exact .inr ⟨g, cap, cur, hv, hb, hg.far g e cur he (.inl hz) hh, hr⟩
theorem GT.rowT {T : TypeId} {N : Nat} {α : Type} {W W' : World} {base : Nat} {e : TypeId} {m : Nat} {f : α → List Value} {A : Option Addr} {c : Nat} {L : List α} (hg : GT T N true W W') (he : e ≠ 32) (h : RowOf W base e m f A c L) : RowOf W' base e m f A c L := by
  refine ⟨h.1, ?_⟩
  rcases h.2 with q | ⟨g, cap, cur, hv, hb, hh, hr⟩
  · exact .inl q
  · exact .inr ⟨g, cap, cur, hv, hb, hg.far g e cur he (.inr (.inr rfl)) hh, hr⟩
theorem GT.grown {T : TypeId} (hT : T ≠ 32) {N : Nat} {W W' : World} {α : Type} {m : Nat} {f : α → List Value} {b1 zc : Nat} {zA : Option Addr} {Y : List α} (hz : RowOf W b1 T m f zA zc Y) (hK : ∀ K, (Value.slice zA Y.length zc).ownBlock = some K → K < N) (hgr : W.grownBy W' (Value.slice zA Y.length zc).ownBlock) : GT T N false W W' := by
  refine ⟨fun g e cur he hh hb => (hgr.block g (Array.getElem?_eq_some_iff.1 hb).1 fun q => ?_).trans hb, fun g ⟨a, b, c, d, hb⟩ => ⟨a, b, c, d, (hgr.block g hb.lt fun q => ?_).trans hb⟩⟩
  · obtain ⟨cur', hc⟩ := block_of hz q.symm
    rw [hb] at hc
    injection hc with hc
    injection hc with _ hc _
    have := hK g q.symm
    rcases hh with h | h | h
    · exact h hc
    · omega
    · cases h
  · obtain ⟨cur', hc⟩ := block_of hz q.symm
    unfold Blk at hb
    rw [hb] at hc
    injection hc with hc
    injection hc with _ hc _
    exact hT hc.symm
end Go.Proofs.YtlideagcmhlkeaaDoor

/- The sources of the examples of chapter 30: one zone with an era, a set of rules with some saves. -/
namespace Go.Proofs.YtlideagcmhlkeaaDoor
open Go.RowKit Go.Lib
set_option linter.unusedVariables false
set_option linter.unusedSimpArgs false

/-- the rule at a place, with a save -/
def mk1 (k : Nat) (y : Int) : RV := ⟨⟨#[82]⟩, 1900 + k, 1900 + k, 1, 1, 0, 1, 0, 0, y, ⟨#[]⟩⟩
def oneRs (sv : List Int) : List RV := sv.mapIdx fun k y => mk1 k y
theorem oneRs_len (sv : List Int) : (oneRs sv).length = sv.length := by unfold oneRs; simp
theorem oneRs_snoc {sv : List Int} {k : Nat} {y : Int} (h : sv[k]? = some y) : oneRs (sv.take (k + 1)) = oneRs (sv.take k) ++ [mk1 k y] := by
  have hk := (List.getElem?_eq_some_iff.1 h).1
  rw [List.take_add_one, h]
  unfold oneRs
  rw [List.mapIdx_append]
  simp [List.length_take, Nat.min_eq_left (Nat.le_of_lt hk)]
/-- a block of one element, read as a slice -/
theorem one_cells {α : Type} {m : Nat} {f : α → List Value} {W : World} {g : Nat} {t : TypeId} {cs : Array Value} {x : α} (h : Blk W g t cs) (hx : cs.toList = f x) : CellsIn m f W (some ⟨g, 0, none⟩) [x] := by
  intro k r hr
  cases k with
  | succ k => simp at hr
  | zero =>
    rw [List.getElem?_cons_zero] at hr
    injection hr with hr
    subst hr
    refine ⟨g, 0, rfl, h.lt, fun j u hu => ?_⟩
    rw [← hx] at hu
    rw [show 0 + 0 * m + j = j by omega]
    exact (h.cell j).trans (by rw [← Array.getElem?_toList]; exact hu)
/-- where the walk of one stands; b: the rule is appended -/
structure Eo (w W : World) (e : EV) (rA : Option Addr) (rc : Nat) (R : List RV) (b : Bool) (W0 : World) : Prop where
  res : Blk W (w.heap.size + 1) 32 #[.slice none 0 0, .slice none 0 0, .slice none 0 0, .slice none 0 0]
  ers : Blk W (w.heap.size + 1 + 1) 47 #[.int .i64 e.off, .int .i64 e.kind, .int .i64 e.save, .string e.set, .string e.fmt, .bool e.ui, .int .i64 e.uy, .int .i64 e.um, .int .i64 e.dk, .int .i64 e.dw, .int .i64 e.dd, .int .i64 e.asec, .int .i64 e.ab]
  zns : Blk W (w.heap.size + 1 + 1 + 1) 39 #[.string ⟨#[65]⟩, .slice (some ⟨w.heap.size + 1 + 1, 0, none⟩) 1 1]
  own : ∃ v, Blk W (w.heap.size + 1 + 1 + 1 + 1) 32 #[v, .slice (some ⟨w.heap.size + 1 + 1 + 1, 0, none⟩) 1 1, .slice none 0 0, .slice none 0 0] ∧ (b = false → v = .slice rA R.length rc)
  bel : Below w.heap.size w W
  le : W0.heap.size ≤ W.heap.size
  ahead : b = false → RowOf W (w.heap.size + 1 + 1 + 1 + 1 + 1) 83 11 RV.cells rA rc R ∧ Below W0.heap.size W0 W
theorem Eo.or {w W W0 : World} {e : EV} {rA : Option Addr} {rc : Nat} {R : List RV} {b x : Bool} (h : Eo w W e rA rc R b W0) : Eo w W e rA rc R (b || x) W0 :=
  ⟨h.res, h.ers, h.zns, by obtain ⟨v, h1, h2⟩ := h.own; exact ⟨v, h1, fun q => h2 (Bool.or_eq_false_iff.1 q).1⟩, h.bel, h.le, fun q => h.ahead (Bool.or_eq_false_iff.1 q).1⟩
theorem Eo.below {w W W' W0 : World} {e : EV} {rA : Option Addr} {rc : Nat} {R : List RV} {b : Bool} (h : Eo w W e rA rc R b W0) (hb : Below W.heap.size W W') : Eo w W' e rA rc R b W0 :=
  ⟨h.res.below hb h.res.lt, h.ers.below hb h.ers.lt, h.zns.below hb h.zns.lt, by obtain ⟨v, h1, h2⟩ := h.own; exact ⟨v, h1.below hb h1.lt, h2⟩, h.bel.trans (hb.mono h.bel.size), Nat.le_trans h.le hb.size, fun q => ⟨(h.ahead q).1.below hb, (h.ahead q).2.trans (hb.mono h.le)⟩⟩
theorem Eo.grown {w W W' W0 : World} {e : EV} {rA : Option Addr} {rc : Nat} {R : List RV} (h : Eo w W e rA rc R false W0) (hz : RowOf W (w.heap.size + 1 + 1 + 1 + 1 + 1) 83 11 RV.cells rA rc R) (hgr : W.grownBy W' (Value.slice rA R.length rc).ownBlock) : Eo w W' e rA rc R true W0 :=
  ⟨blk_grown h.res hz hgr (by omega), blk_grown h.ers hz hgr (by omega), blk_grown h.zns hz hgr (by omega), by obtain ⟨v, h1, h2⟩ := h.own; exact ⟨v, blk_grown h1 hz hgr (by omega), fun q => by cases q⟩, own_grown h.bel hz hgr h.bel.size (by omega), Nat.le_trans h.le hgr.size, fun q => by cases q⟩
theorem Eo.set1 {w W W0 : World} {e : EV} {rA : Option Addr} {rc : Nat} {R : List RV} (h : Eo w W e rA rc R true W0) {v : Value} (hv : Blk W (w.heap.size + 1 + 1 + 1 + 1) 32 #[v, .slice (some ⟨w.heap.size + 1 + 1 + 1, 0, none⟩) 1 1, .slice none 0 0, .slice none 0 0]) (u : Value) : Eo w (W.setCell ⟨w.heap.size + 1 + 1 + 1 + 1, 0, none⟩ u) e rA rc R true W0 :=
  ⟨h.res.far (by show _ ≠ w.heap.size + 1 + 1 + 1 + 1; omega) u, h.ers.far (by show _ ≠ w.heap.size + 1 + 1 + 1 + 1; omega) u, h.zns.far (by show _ ≠ w.heap.size + 1 + 1 + 1 + 1; omega) u, ⟨u, hv.set_ 0 u, fun q => by cases q⟩, h.bel.setCell (by show w.heap.size ≤ w.heap.size + 1 + 1 + 1 + 1; omega) u, by simpa using h.le, fun q => by cases q⟩
set_option maxRecDepth 100000 in
set_option maxHeartbeats 16000000 in
theorem one_any (e : EV) (A : Option Addr) (c : Nat) (sv : List Int) (w : World) (hl : sv.length ≤ 100) (hC : CellsIn 1 (fun y : Int => [Value.int .i64 y]) w A sv) :
    Calls Tryd.prog 26 #[.agg #[.int .i64 e.off, .int .i64 e.kind, .int .i64 e.save, .string e.set, .string e.fmt, .bool e.ui, .int .i64 e.uy, .int .i64 e.um, .int .i64 e.dk, .int .i64 e.dw, .int .i64 e.dd, .int .i64 e.asec, .int .i64 e.ab], .slice A sv.length c] w fun x w' => ∃ (t : SV), x = .returned (.agg #[.slice t.rA t.rules.length t.rc, .slice t.zA t.zones.length t.zc, .slice t.kA t.links.length t.kc, .slice t.hA t.shifts.length t.hc]) ∧ SrcG w' t ∧ (t.rules = oneRs sv ∧ (∃ eA ec, t.zones = [⟨⟨#[65]⟩, eA, ec, [e]⟩]) ∧ t.links = [] ∧ t.shifts = []) ∧ Below w.heap.size w w' := by
  have hb1 := (Below.refl w.heap.size w).alloc (Nat.le_refl _) (.cells #[.int .i64 e.off, .int .i64 e.kind, .int .i64 e.save, .string e.set, .string e.fmt, .bool e.ui, .int .i64 e.uy, .int .i64 e.um, .int .i64 e.dk, .int .i64 e.dw, .int .i64 e.dd, .int .i64 e.asec, .int .i64 e.ab] 47)
  have hb2 := hb1.alloc (by simp) (.cells #[.slice none 0 0, .slice none 0 0, .slice none 0 0, .slice none 0 0] 32)
  have hb3 := hb2.alloc (by simp; omega) (.cells #[.int .i64 e.off, .int .i64 e.kind, .int .i64 e.save, .string e.set, .string e.fmt, .bool e.ui, .int .i64 e.uy, .int .i64 e.um, .int .i64 e.dk, .int .i64 e.dw, .int .i64 e.dd, .int .i64 e.asec, .int .i64 e.ab] 47)
  have hb4 := hb3.alloc (by simp; omega) (.cells #[.string ⟨#[65]⟩, .slice (some ⟨w.heap.size + 1 + 1, 0, none⟩) 1 1] 39)
  have hb5 := hb4.alloc (by simp; omega) (.cells #[.slice none 0 0, .slice (some ⟨w.heap.size + 1 + 1 + 1, 0, none⟩) 1 1, .slice none 0 0, .slice none 0 0] 32)
  have hE0 := Lib.hid (show Eo w _ e none 0 (oneRs (sv.take 0)) false _ from ⟨(((Blk.newAt (w.alloc (.cells #[.int .i64 e.off, .int .i64 e.kind, .int .i64 e.save, .string e.set, .string e.fmt, .bool e.ui, .int .i64 e.uy, .int .i64 e.um, .int .i64 e.dk, .int .i64 e.dw, .int .i64 e.dd, .int .i64 e.asec, .int .i64 e.ab] 47)) (w.heap.size + 1) (by simp) 32 #[.slice none 0 0, .slice none 0 0, .slice none 0 0, .slice none 0 0]).alloc (.cells #[.int .i64 e.off, .int .i64 e.kind, .int .i64 e.save, .string e.set, .string e.fmt, .bool e.ui, .int .i64 e.uy, .int .i64 e.um, .int .i64 e.dk, .int .i64 e.dw, .int .i64 e.dd, .int .i64 e.asec, .int .i64 e.ab] 47)).alloc (.cells #[.string ⟨#[65]⟩, .slice (some ⟨w.heap.size + 1 + 1, 0, none⟩) 1 1] 39)).alloc (.cells #[.slice none 0 0, .slice (some ⟨w.heap.size + 1 + 1 + 1, 0, none⟩) 1 1, .slice none 0 0, .slice none 0 0] 32),
    ((Blk.newAt ((w.alloc (.cells #[.int .i64 e.off, .int .i64 e.kind, .int .i64 e.save, .string e.set, .string e.fmt, .bool e.ui, .int .i64 e.uy, .int .i64 e.um, .int .i64 e.dk, .int .i64 e.dw, .int .i64 e.dd, .int .i64 e.asec, .int .i64 e.ab] 47)).alloc (.cells #[.slice none 0 0, .slice none 0 0, .slice none 0 0, .slice none 0 0] 32)) (w.heap.size + 1 + 1) (by simp) 47 #[.int .i64 e.off, .int .i64 e.kind, .int .i64 e.save, .string e.set, .string e.fmt, .bool e.ui, .int .i64 e.uy, .int .i64 e.um, .int .i64 e.dk, .int .i64 e.dw, .int .i64 e.dd, .int .i64 e.asec, .int .i64 e.ab]).alloc (.cells #[.string ⟨#[65]⟩, .slice (some ⟨w.heap.size + 1 + 1, 0, none⟩) 1 1] 39)).alloc (.cells #[.slice none 0 0, .slice (some ⟨w.heap.size + 1 + 1 + 1, 0, none⟩) 1 1, .slice none 0 0, .slice none 0 0] 32),
    (Blk.newAt (((w.alloc (.cells #[.int .i64 e.off, .int .i64 e.kind, .int .i64 e.save, .string e.set, .string e.fmt, .bool e.ui, .int .i64 e.uy, .int .i64 e.um, .int .i64 e.dk, .int .i64 e.dw, .int .i64 e.dd, .int .i64 e.asec, .int .i64 e.ab] 47)).alloc (.cells #[.slice none 0 0, .slice none 0 0, .slice none 0 0, .slice none 0 0] 32)).alloc (.cells #[.int .i64 e.off, .int .i64 e.kind, .int .i64 e.save, .string e.set, .string e.fmt, .bool e.ui, .int .i64 e.uy, .int .i64 e.um, .int .i64 e.dk, .int .i64 e.dw, .int .i64 e.dd, .int .i64 e.asec, .int .i64 e.ab] 47)) (w.heap.size + 1 + 1 + 1) (by simp) 39 #[.string ⟨#[65]⟩, .slice (some ⟨w.heap.size + 1 + 1, 0, none⟩) 1 1]).alloc (.cells #[.slice none 0 0, .slice (some ⟨w.heap.size + 1 + 1 + 1, 0, none⟩) 1 1, .slice none 0 0, .slice none 0 0] 32),
    ⟨_, Blk.newAt ((((w.alloc (.cells #[.int .i64 e.off, .int .i64 e.kind, .int .i64 e.save, .string e.set, .string e.fmt, .bool e.ui, .int .i64 e.uy, .int .i64 e.um, .int .i64 e.dk, .int .i64 e.dw, .int .i64 e.dd, .int .i64 e.asec, .int .i64 e.ab] 47)).alloc (.cells #[.slice none 0 0, .slice none 0 0, .slice none 0 0, .slice none 0 0] 32)).alloc (.cells #[.int .i64 e.off, .int .i64 e.kind, .int .i64 e.save, .string e.set, .string e.fmt, .bool e.ui, .int .i64 e.uy, .int .i64 e.um, .int .i64 e.dk, .int .i64 e.dw, .int .i64 e.dd, .int .i64 e.asec, .int .i64 e.ab] 47)).alloc (.cells #[.string ⟨#[65]⟩, .slice (some ⟨w.heap.size + 1 + 1, 0, none⟩) 1 1] 39)) (w.heap.size + 1 + 1 + 1 + 1) (by simp) 32 #[.slice none 0 0, .slice (some ⟨w.heap.size + 1 + 1 + 1, 0, none⟩) 1 1, .slice none 0 0, .slice none 0 0], fun _ => by simp [oneRs]⟩, hb5, Nat.le_refl _, fun _ => ⟨World.ownsRow_nil .., Below.refl _ _⟩⟩)
  have HC := Lib.hid hC
  have hl2 : (sv.length : Int) ≤ 100 := by omega
  clear hC hb1 hb2 hb3 hb4 hb5
  go_enter Tryd.func26, Tryd.ntmps26
  go_wp2_with fail
  go_loopw [6] (fun i W => ∃ k : Nat, k ≤ sv.length ∧ i = .int .i64 k ∧ ∃ rA rc, Eo w W e rA rc (oneRs (sv.take k)) false W ∧ w.heap.size + 1 + 1 + 1 + 1 + 1 ≤ W.heap.size) (fun i _ => sv.length - (intOf i).toNat)
  case atStart => exact ⟨0, Nat.zero_le _, rfl, none, 0, hE0.out, by simp⟩
  case round =>
    clear hE0
    obtain ⟨k, hk, rfl, rA, rc, heo, hgl⟩ := hrel
    by_cases hlt : k < sv.length
    · have hki : (k : Int) < (sv.length : Int) := by omega
      have hk0 : (0 : Int) ≤ (k : Int) := by omega
      obtain ⟨yv, hy⟩ : ∃ y, sv[k]? = some y := ⟨_, List.getElem?_eq_getElem hlt⟩
      obtain ⟨gb, ob, rfl, hgb, hyc⟩ := HC.out k yv hy
      have HY0 := Lib.hid (show w.cell? ⟨gb, ob + k, none⟩ = some (.int .i64 yv) from by simpa using hyc 0 _ rfl)
      have HGB := Lib.hid hgb
      have HSN := Lib.hid (oneRs_snoc hy)
      have HRL : Hid ((oneRs (sv.take k)).length ≤ 100) := Lib.hid (by rw [oneRs_len, List.length_take]; omega)
      have HGL := Lib.hid hgl; have HLT := Lib.hid hlt
      have HZ0 : Hid (∀ K, (Value.slice rA (oneRs (sv.take k)).length rc).ownBlock = some K → K < wr.heap.size) := Lib.hid fun K hK => (World.ownsRow.lt (heo.ahead rfl).1 K hK).2
      have hS0 := heo
      have w1900 : IntKind.i64.wrap (1900 + (k : Int)) = 1900 + (k : Int) := IntWalk.i64_in _ (by omega)
      clear heo hgl hlt hy hyc hgb
      have HS0 := Lib.hid hS0
      clear hS0
      go_wp2_with fail
      have hS0 := HS0.out
      clear HS0
      refine wp_region_shapeB [(some 18, []), (some 19, [0]), (some 20, []), (some 21, [2]), (some 22, []), (some 23, [4]), (some 24, []), (some 25, []), (some 26, []), (some 27, [7, 8]), (some 28, [9]), (some 29, [3, 5, 6, 10]), (some 30, [11]), (some 31, [1, 12]), (some 32, [0, 1, 2, 3, 4, 5, 6, 7, 8, 9, 10, 11, 12, 13]), (none, [14, 13, 13, 0, 1, 2, 3, 4, 5, 6, 7, 8, 9, 10, 11, 12, 13])] (fun y => { tmps := #[.agg #[.int .i64 e.off, .int .i64 e.kind, .int .i64 e.save, .string e.set, .string e.fmt, .bool e.ui, .int .i64 e.uy, .int .i64 e.um, .int .i64 e.dk, .int .i64 e.dw, .int .i64 e.dd, .int .i64 e.asec, .int .i64 e.ab], .slice (some ⟨gb, ob, none⟩) sv.length c, .pointer (some ⟨w.heap.size, 0, none⟩), undef, .pointer (some ⟨w.heap.size + 1, 0, none⟩), .pointer (some ⟨w.heap.size + 1 + 1 + 1 + 1, 0, none⟩), .int .i64 k, .agg #[.int .i64 e.off, .int .i64 e.kind, .int .i64 e.save, .string e.set, .string e.fmt, .bool e.ui, .int .i64 e.uy, .int .i64 e.um, .int .i64 e.dk, .int .i64 e.dw, .int .i64 e.dd, .int .i64 e.asec, .int .i64 e.ab], .slice (some ⟨w.heap.size + 1 + 1, 0, none⟩) 1 1, .agg #[.string ⟨#[65]⟩, .slice (some ⟨w.heap.size + 1 + 1, 0, none⟩) 1 1], .slice (some ⟨w.heap.size + 1 + 1 + 1, 0, none⟩) 1 1, .agg #[.slice none 0 0, .slice (some ⟨w.heap.size + 1 + 1 + 1, 0, none⟩) 1 1, .slice none 0 0, .slice none 0 0], .int .i64 k, .slice (some ⟨gb, ob, none⟩) sv.length c, .int .i64 sv.length, .bool true, u16, u17, y 18, y 19, y 20, y 21, y 22, y 23, y 24, y 25, y 26, y 27, y 28, y 29, y 30, y 31, y 32, undef], defers := [] }) (fun k => match k with | 18 => u18 | 19 => u19 | 20 => u20 | 21 => u21 | 22 => u22 | 23 => u23 | 24 => u24 | 25 => u25 | 26 => u26 | 27 => u27 | 28 => u28 | 29 => u29 | 30 => u30 | 31 => u31 | 32 => u32 | _ => undef) (fun j => j == 12 || j == 13 || j == 15) [.pointer (some ⟨w.heap.size + 1 + 1 + 1 + 1, 0, none⟩), .slice rA (oneRs (sv.take k)).length rc, .int .i64 k, .int .i64 (1900 + (k : Int)), .int .i64 k, .int .i64 (1900 + (k : Int)), .agg #[.int .i64 1, .int .i64 0, .int .i64 1], .slice (some ⟨gb, ob, none⟩) sv.length c, .int .i64 k, .pointer (some ⟨gb, ob + k, none⟩), .int .i64 yv, .agg #[.string ⟨#[82]⟩, .int .i64 (1900 + (k : Int)), .int .i64 (1900 + (k : Int)), .int .i64 1, .int .i64 1, .int .i64 0, .int .i64 1, .int .i64 0, .int .i64 0, .int .i64 yv, .string ⟨#[]⟩], undef, undef, .pointer (some ⟨w.heap.size + 1 + 1 + 1 + 1, 0, none⟩), undef] (fun j y W => match j with | 12 => ∃ B, y 30 = .slice (some ⟨B, 0, none⟩) 1 1 ∧ wr.heap.size ≤ B ∧ Blk W B 83 #[.string ⟨#[82]⟩, .int .i64 (1900 + (k : Int)), .int .i64 (1900 + (k : Int)), .int .i64 1, .int .i64 1, .int .i64 0, .int .i64 1, .int .i64 0, .int .i64 0, .int .i64 yv, .string ⟨#[]⟩] | 13 => ∃ rA' rc', y 31 = .slice rA' ((oneRs (sv.take k)).length + 1) rc' ∧ RowOf W (w.heap.size + 1 + 1 + 1 + 1 + 1) 83 11 RV.cells rA' rc' (oneRs (sv.take k) ++ [mk1 k yv]) | 15 => ∃ rA' rc', RowOf W (w.heap.size + 1 + 1 + 1 + 1 + 1) 83 11 RV.cells rA' rc' (oneRs (sv.take k) ++ [mk1 k yv]) ∧ Blk W (w.heap.size + 1 + 1 + 1 + 1) 32 #[.slice rA' ((oneRs (sv.take k)).length + 1) rc', .slice (some ⟨w.heap.size + 1 + 1 + 1, 0, none⟩) 1 1, .slice none 0 0, .slice none 0 0] | _ => True) (fun j => match j with | 12 => [30] | 13 => [31] | 15 => [] | _ => []) 13 (fun b => GT 83 wr.heap.size b) (fun b W => Eo w W e rA rc (oneRs (sv.take k)) b wr) (by kernel_rfl) (by kernel_rfl) (by decide +kernel) rfl (hS0.below (Below.refl _ _).drew) ?hput5 ?hloc5 ?hmono5 ?hstep5 ?hdone5
      case hput5 =>
        intro d hd y v
        simp only [List.filterMap_cons, List.filterMap_nil, List.mem_cons, List.not_mem_nil, or_false] at hd
        rcases hd with rfl | rfl | rfl | rfl | rfl | rfl | rfl | rfl | rfl | rfl | rfl | rfl | rfl | rfl | rfl
        all_goals rfl
      case hloc5 =>
        intro j hj y y' W hk hx
        have hj' : j = 12 ∨ j = 13 ∨ j = 15 := by simpa [or_assoc] using hj
        rcases hj' with rfl | rfl | rfl
        · simp only [List.forall_mem_cons, List.not_mem_nil, false_imp_iff, implies_true, and_true] at hk
          show _
          simpa only [hk] using hx
        · simp only [List.forall_mem_cons, List.not_mem_nil, false_imp_iff, implies_true, and_true] at hk
          show _
          simpa only [hk] using hx
        · skip
          exact hx
      case hmono5 =>
        intro j hj hlast b hbq y W W' hg hx
        have hj' : j = 12 ∨ j = 13 ∨ j = 15 := by simpa [or_assoc] using hj
        rcases hj' with rfl | rfl | rfl
        · obtain ⟨B, h1, h3, h4⟩ := hx; exact ⟨B, h1, h3, hg.far _ _ _ (by decide) (.inr (.inl h3)) h4⟩
        · obtain ⟨rA', rc', h1, h2⟩ := hx; have hb1 := hbq rfl; subst hb1; exact ⟨rA', rc', h1, hg.rowT (by decide) h2⟩
        · exact absurd hlast (by decide)
      case hdone5 =>
        intro y5 W5 hS hd
        have x15 : (fun (y : Nat → Value) (W : World) => ∃ rA' rc', RowOf W (w.heap.size + 1 + 1 + 1 + 1 + 1) 83 11 RV.cells rA' rc' (oneRs (sv.take k) ++ [mk1 k yv]) ∧ Blk W (w.heap.size + 1 + 1 + 1 + 1) 32 #[.slice rA' ((oneRs (sv.take k)).length + 1) rc', .slice (some ⟨w.heap.size + 1 + 1 + 1, 0, none⟩) 1 1, .slice none 0 0, .slice none 0 0]) y5 W5 := (hd 15 (by decide)).ex rfl
        obtain ⟨rA', rc', h1, h2⟩ := x15
        have HE7 := Lib.hid (show Eo w W5 e rA' rc' (oneRs (sv.take (k + 1))) false W5 from by
          rw [HSN.out]
          exact ⟨hS.res, hS.ers, hS.zns, ⟨_, by rw [List.length_append]; exact h2, fun _ => rfl⟩, hS.bel, Nat.le_refl _, fun _ => ⟨h1, Below.refl _ _⟩⟩)
        have HGL7 := Lib.hid (Nat.le_trans HGL.out hS.le)
        clear hd hS h1 h2
        go_wp2_with fail
        go_roundw
        case rel => exact ⟨k + 1, by have := HLT.out; omega, by go_num, rA', rc', HE7.out, HGL7.out⟩
        case measure => have := HLT.out; simp [intOf]; omega
      case hstep5 =>
        refine StepsOkB.cons (StepOkB.known rfl fun y W b hbq hS hd K' hK => ?_) ?_
        · skip
          clear hd
          go_simp
          exact hK.out _ _ rfl (GT.refl _ _ _ _) hS.or
        refine StepsOkB.cons (StepOkB.known rfl fun y W b hbq hS hd K' hK => ?_) ?_
        · skip
          have e18 : y 18 = .pointer (some ⟨w.heap.size + 1 + 1 + 1 + 1, 0, none⟩) := (hd 0 rfl).val rfl rfl
          clear hd
          have hb1 := hbq.1 (.inr rfl)
          subst hb1
          obtain ⟨v, hv, hv2⟩ := hS.own
          obtain rfl := hv2 rfl
          have hc := (hv.cell 0).trans rfl
          go_simp
          exact hK.out _ _ (by first | rfl | (simp only [e18]; done) | (simp only [e18]; rfl)) (GT.refl _ _ _ _) hS.or
        refine StepsOkB.cons (StepOkB.known rfl fun y W b hbq hS hd K' hK => ?_) ?_
        · skip
          clear hd
          go_simp
          exact hK.out _ _ rfl (GT.refl _ _ _ _) hS.or
        refine StepsOkB.cons (StepOkB.known rfl fun y W b hbq hS hd K' hK => ?_) ?_
        · skip
          have e20 : y 20 = .int .i64 k := (hd 2 rfl).val rfl rfl
          clear hd
          go_simp
          exact hK.out _ _ (by first | rfl | (simp only [e20]; done) | (simp only [e20]; rfl)) (GT.refl _ _ _ _) hS.or
        refine StepsOkB.cons (StepOkB.known rfl fun y W b hbq hS hd K' hK => ?_) ?_
        · skip
          clear hd
          go_simp
          exact hK.out _ _ rfl (GT.refl _ _ _ _) hS.or
        refine StepsOkB.cons (StepOkB.known rfl fun y W b hbq hS hd K' hK => ?_) ?_
        · skip
          have e22 : y 22 = .int .i64 k := (hd 4 rfl).val rfl rfl
          clear hd
          go_simp
          exact hK.out _ _ (by first | rfl | (simp only [e22]; done) | (simp only [e22]; rfl)) (GT.refl _ _ _ _) hS.or
        refine StepsOkB.cons (StepOkB.known rfl fun y W b hbq hS hd K' hK => ?_) ?_
        · skip
          clear hd
          go_simp
          exact hK.out _ _ rfl (GT.refl _ _ _ _) hS.or
        refine StepsOkB.cons (StepOkB.known rfl fun y W b hbq hS hd K' hK => ?_) ?_
        · skip
          clear hd
          go_simp
          exact hK.out _ _ rfl (GT.refl _ _ _ _) hS.or
        refine StepsOkB.cons (StepOkB.known rfl fun y W b hbq hS hd K' hK => ?_) ?_
        · skip
          clear hd
          go_simp
          exact hK.out _ _ rfl (GT.refl _ _ _ _) hS.or
        refine StepsOkB.cons (StepOkB.known rfl fun y W b hbq hS hd K' hK => ?_) ?_
        · skip
          have e25 : y 25 = .slice (some ⟨gb, ob, none⟩) sv.length c := (hd 7 rfl).val rfl rfl
          have e26 : y 26 = .int .i64 k := (hd 8 rfl).val rfl rfl
          clear hd
          go_simp
          exact hK.out _ _ (by first | rfl | (simp only [e25, e26]; done) | (simp only [e25, e26]; rfl)) (GT.refl _ _ _ _) hS.or
        refine StepsOkB.cons (StepOkB.known rfl fun y W b hbq hS hd K' hK => ?_) ?_
        · skip
          have e27 : y 27 = .pointer (some ⟨gb, ob + k, none⟩) := (hd 9 rfl).val rfl rfl
          clear hd
          have hc := (hS.bel.cell (p := ⟨gb, ob + k, none⟩) HGB.out).trans HY0.out
          go_simp
          exact hK.out _ _ (by first | rfl | (simp only [e27]; done) | (simp only [e27]; rfl)) (GT.refl _ _ _ _) hS.or
        refine StepsOkB.cons (StepOkB.known rfl fun y W b hbq hS hd K' hK => ?_) ?_
        · skip
          have e21 : y 21 = .int .i64 (1900 + (k : Int)) := (hd 3 rfl).val rfl rfl
          have e23 : y 23 = .int .i64 (1900 + (k : Int)) := (hd 5 rfl).val rfl rfl
          have e24 : y 24 = .agg #[.int .i64 1, .int .i64 0, .int .i64 1] := (hd 6 rfl).val rfl rfl
          have e28 : y 28 = .int .i64 yv := (hd 10 rfl).val rfl rfl
          clear hd
          go_simp
          exact hK.out _ _ (by first | rfl | (simp only [e21, e23, e24, e28]; done) | (simp only [e21, e23, e24, e28]; rfl)) (GT.refl _ _ _ _) hS.or
        refine StepsOkB.cons (StepOkB.other rfl fun y W b hbq hS hd K' hK => ?_) ?_
        · skip
          have e29 : y 29 = .agg #[.string ⟨#[82]⟩, .int .i64 (1900 + (k : Int)), .int .i64 (1900 + (k : Int)), .int .i64 1, .int .i64 1, .int .i64 0, .int .i64 1, .int .i64 0, .int .i64 0, .int .i64 yv, .string ⟨#[]⟩] := (hd 11 rfl).val rfl rfl
          clear hd
          have hle := hS.le
          have hal := (Below.refl W.heap.size W).alloc (Nat.le_refl _) (.cells #[.string ⟨#[82]⟩, .int .i64 (1900 + (k : Int)), .int .i64 (1900 + (k : Int)), .int .i64 1, .int .i64 1, .int .i64 0, .int .i64 1, .int .i64 0, .int .i64 0, .int .i64 yv, .string ⟨#[]⟩] 83)
          go_simp
          exact hK.out _ _ _ (by first | rfl | (simp only [e29]; done) | (simp only [e29]; rfl)) (GT.below _ hal) (hS.below hal).or (show ∃ B, _ = Value.slice (some ⟨B, 0, none⟩) 1 1 ∧ wr.heap.size ≤ B ∧ Blk _ B 83 #[.string ⟨#[82]⟩, .int .i64 (1900 + (k : Int)), .int .i64 (1900 + (k : Int)), .int .i64 1, .int .i64 1, .int .i64 0, .int .i64 1, .int .i64 0, .int .i64 0, .int .i64 yv, .string ⟨#[]⟩] from ⟨_, rfl, hle, Blk.new W _ _⟩)
        refine StepsOkB.cons (StepOkB.other rfl fun y W b hbq hS hd K' hK => ?_) ?_
        · skip
          have e19 : y 19 = .slice rA (oneRs (sv.take k)).length rc := (hd 1 rfl).val rfl rfl
          have x12 : (fun (y : Nat → Value) (W : World) => ∃ B, y 30 = .slice (some ⟨B, 0, none⟩) 1 1 ∧ wr.heap.size ≤ B ∧ Blk W B 83 #[.string ⟨#[82]⟩, .int .i64 (1900 + (k : Int)), .int .i64 (1900 + (k : Int)), .int .i64 1, .int .i64 1, .int .i64 0, .int .i64 1, .int .i64 0, .int .i64 0, .int .i64 yv, .string ⟨#[]⟩]) y W := (hd 12 rfl).ex rfl
          clear hd
          have hb1 := hbq.1 (.inl rfl)
          subst hb1
          obtain ⟨B, h1, h3, h4⟩ := x12
          have hle := hS.le
          obtain ⟨hz, hbw⟩ := hS.ahead rfl
          obtain ⟨i1, hi, hz0, hz1, hz2⟩ := info_parts infoRuleC
          refine step_append_own (by rfl) _ _ 27 (by rfl) (w.heap.size + 1 + 1 + 1 + 1 + 1) 83 i1 _ 11 104 Tryd.underlying27 hi hz0 hz1 hz2 rfl (by decide) (.slice rA (oneRs (sv.take k)).length rc) (oneRs (sv.take k)).length ((oneRs (sv.take k)).flatMap RV.cells) (by first | rfl | (simp only [e19]; rfl)) hz ⟨B, 0, none⟩ 1 1 (mk1 k yv).cells (by first | rfl | (simp only [h1]; rfl)) rfl (blk_cells h4) (one_rule _) (by have := HRL.out; simp only [maxLen]; omega) (by have := HRL.out; omega) (Nat.le_trans HGL.out hle) ?_
          intro v1 w6 hown hgr
          obtain ⟨rA', rc', rfl⟩ := row_is hown
          have hG := GT.grown (by decide) hz HZ0.out hgr
          exact hK.out _ _ _ rfl hG (hS.grown hz hgr) (show ∃ rA'' rc'', _ = Value.slice rA'' ((oneRs (sv.take k)).length + 1) rc'' ∧ RowOf _ (w.heap.size + 1 + 1 + 1 + 1 + 1) 83 11 RV.cells rA'' rc'' (oneRs (sv.take k) ++ [mk1 k yv]) from ⟨rA', rc', rfl, by unfold RowOf; rw [List.length_append, List.flatMap_append, List.flatMap_singleton]; exact hown⟩)
        refine StepsOkB.cons (StepOkB.known rfl fun y W b hbq hS hd K' hK => ?_) ?_
        · skip
          clear hd
          go_simp
          exact hK.out _ _ rfl (GT.refl _ _ _ _) hS.or
        refine StepsOkB.cons (StepOkB.other rfl fun y W b hbq hS hd K' hK => ?_) ?_
        · skip
          have x13 : (fun (y : Nat → Value) (W : World) => ∃ rA' rc', y 31 = .slice rA' ((oneRs (sv.take k)).length + 1) rc' ∧ RowOf W (w.heap.size + 1 + 1 + 1 + 1 + 1) 83 11 RV.cells rA' rc' (oneRs (sv.take k) ++ [mk1 k yv])) y W := (hd 13 rfl).ex rfl
          have e32 : y 32 = .pointer (some ⟨w.heap.size + 1 + 1 + 1 + 1, 0, none⟩) := (hd 14 rfl).val rfl rfl
          clear hd
          have hb1 := hbq.2 rfl
          subst hb1
          obtain ⟨rA', rc', h1, h2⟩ := x13
          obtain ⟨v, hv, _⟩ := hS.own
          have k1 := (hv.cell 0).trans rfl
          have f1 := hv.frozen 0
          have t1 := hv.set_ 0 (.slice rA' ((oneRs (sv.take k)).length + 1) rc')
          have q1 := GS.set_ hv 0 (.slice rA' ((oneRs (sv.take k)).length + 1) rc')
          have hs' := hS.set1 hv (.slice rA' ((oneRs (sv.take k)).length + 1) rc')
          have HH := Lib.hid (And.intro t1 (And.intro q1 hs'))
          clear t1 q1 hs'
          go_simp
          exact hK.out undef _ _ (by first | rfl | (simp only [h1]; done) | (simp only [h1, e32]; rfl)) (GT.gs _ HH.out.2.1) HH.out.2.2 (show ∃ rA' rc', RowOf _ (w.heap.size + 1 + 1 + 1 + 1 + 1) 83 11 RV.cells rA' rc' (oneRs (sv.take k) ++ [mk1 k yv]) ∧ Blk _ (w.heap.size + 1 + 1 + 1 + 1) 32 #[.slice rA' ((oneRs (sv.take k)).length + 1) rc', .slice (some ⟨w.heap.size + 1 + 1 + 1, 0, none⟩) 1 1, .slice none 0 0, .slice none 0 0] from ⟨rA', rc', HH.out.2.1.row (by decide) h2, HH.out.1⟩)
        exact StepsOkB.nil
    · obtain rfl : k = sv.length := by omega
      rw [List.take_length] at heo
      obtain ⟨v, hv, hv2⟩ := heo.own
      obtain rfl := hv2 rfl
      have p0 := (hv.cell 0).trans rfl; have p1 := (hv.cell 1).trans rfl; have p2 := (hv.cell 2).trans rfl; have p3 := (hv.cell 3).trans rfl
      have r0 := (heo.res.cell 0).trans rfl; have r1 := (heo.res.cell 1).trans rfl; have r2 := (heo.res.cell 2).trans rfl; have r3 := (heo.res.cell 3).trans rfl
      have g0 := heo.res.frozen 0; have g1 := heo.res.frozen 1; have g2 := heo.res.frozen 2; have g3 := heo.res.frozen 3
      have hG := GS.set4 heo.res (.slice rA (oneRs sv).length rc) (.slice (some ⟨w.heap.size + 1 + 1 + 1, 0, none⟩) 1 1) (.slice none 0 0) (.slice none 0 0)
      have k0 := (hG.2.cell 0).trans rfl; have k1 := (hG.2.cell 1).trans rfl; have k2 := (hG.2.cell 2).trans rfl; have k3 := (hG.2.cell 3).trans rfl
      have HG := Lib.hid hG.1; have HE := Lib.hid heo
      clear heo hG hv hv2
      go_wp2_with fail
      refine bodyPost_ret (v := .agg #[.slice rA (oneRs sv).length rc, .slice (some ⟨w.heap.size + 1 + 1 + 1, 0, none⟩) 1 1, .slice none 0 0, .slice none 0 0]) (by simp [results, Tryd.results26, go_sem, k0, k1, k2, k3]) rfl ?_
      refine ⟨⟨rA, rc, oneRs sv, some ⟨w.heap.size + 1 + 1 + 1, 0, none⟩, 1, [⟨⟨#[65]⟩, some ⟨w.heap.size + 1 + 1, 0, none⟩, 1, [e]⟩], none, 0, [], none, 0, []⟩, rfl, fun V hV => ?_, ⟨rfl, ⟨_, _, rfl⟩, rfl, rfl⟩, below_set4 HE.out.bel (Nat.le_succ _) _ _ _ _⟩
      have hg := HG.out.trans hV
      have hz := hg.far _ _ _ (by decide) HE.out.zns
      have he := hg.far _ _ _ (by decide) HE.out.ers
      refine ⟨(hg.row (by decide) (HE.out.ahead rfl).1).cellsIn len_rule, one_cells hz (by rfl), fun k r h => by simp at h, fun k r h => by simp at h, fun z hm => ?_⟩
      obtain rfl := List.mem_singleton.1 hm
      exact one_cells he (by rfl)
set_option maxRecDepth 100000 in
set_option maxHeartbeats 8000000 in
theorem named_any (off : Int) (f : ByteArray) (w : World) :
    Calls Tryd.prog 25 #[.int .i64 off, .string f] w fun x w' => x = .returned (.agg #[.int .i64 off, .int .i64 2, .int .i64 0, .string ⟨#[82]⟩, .string f, .bool false, .int .i64 0, .int .i64 0, .int .i64 0, .int .i64 0, .int .i64 0, .int .i64 0, .int .i64 0]) ∧ Below w.heap.size w w' := by
  go_enter Tryd.func25, Tryd.ntmps25
  go_wp2_with fail
  refine bodyPost_ret (v := .agg #[.int .i64 off, .int .i64 2, .int .i64 0, .string ⟨#[82]⟩, .string f, .bool false, .int .i64 0, .int .i64 0, .int .i64 0, .int .i64 0, .int .i64 0, .int .i64 0, .int .i64 0]) (by simp [results, Tryd.results25, go_sem]) rfl ?_
  exact ⟨rfl, (Below.refl _ _).alloc (Nat.le_refl _) _⟩
end Go.Proofs.YtlideagcmhlkeaaDoor

/- slices.Clone of rules, links, eras and strings: a row of the call's own. -/
namespace Go.Proofs.YtlideagcmhlkeaaDoor
open Go.RowKit
set_option linter.unusedVariables false
set_option linter.unusedSimpArgs false

theorem len_str (b : ByteArray) : ((fun b : ByteArray => [Value.string b]) b).length = 1 := rfl
theorem one_str (b : ByteArray) : ∀ u ∈ (fun b : ByteArray => [Value.string b]) b, u.oneCell' = true := fun u hu => by rw [List.mem_singleton.1 hu]; rfl
set_option maxRecDepth 100000 in
set_option maxHeartbeats 4000000 in
theorem clone_rule (A : Option Addr) (c : Nat) (L : List RV) (w : World) (hl : L.length ≤ 1000000) (hC : CellsIn 11 RV.cells w A L) :
    Calls Tryd.prog 84 #[.slice A L.length c] w fun e w' => ∃ A' c', e = .returned (.slice A' L.length c') ∧ RowOf w' w.heap.size 83 11 RV.cells A' c' L ∧ Below w.heap.size w w' := by
  have hq := fun (w : World) (a : Option Addr) (n c n' c' : Nat) => Lib.run_eql_slice_nil (P := Tryd.prog) w 27 83 a n c n' c' Tryd.underlying27
  cases A with
  | none =>
    obtain rfl : L = [] := by
      cases L with
      | nil => rfl
      | cons x L => obtain ⟨b, o, h, _⟩ := hC 0 x rfl; cases h
    go_enter Tryd.func84, Tryd.ntmps84
    go_wp2_with fail
    go_ret
    exact ⟨none, 0, rfl, World.ownsRow_nil .., Below.refl _ _⟩
  | some a =>
    obtain ⟨i1, hi, hz0, hz1, hz2⟩ := info_parts infoRuleC
    have hal := (Below.refl w.heap.size w).alloc (Nat.le_refl _) (.cells #[] 83)
    have HIN := Lib.hid (in_news len_rule (by decide) (hC.below hal))
    have HMD := Lib.hid (World.ownsRow_made (base := w.heap.size) (e := 83) (size := 11) w #[] 0 (Nat.le_refl _) (Nat.zero_le _) (by simp))
    have HFL := Lib.hid (fl_len len_rule L)
    have H1S := Lib.hid (one_fl one_rule L)
    have HAL := Lib.hid hal
    clear hC hal
    go_enter Tryd.func84, Tryd.ntmps84
    go_wp2_with (at_builtin; refine wpList_append_lit rfl _ _ 27 rfl w.heap.size 83 i1 _ 11 104 w.heap.size Tryd.underlying27 hi hz0 hz1 hz2 rfl (by decide) rfl HMD.out (some a) L.length c (L.flatMap RV.cells) rfl HFL.out HIN.out H1S.out (by simp only [maxLen]; omega) (by omega) (by simp) ?_)
    intro A' c' w1 hown hgrow
    have hbl : Below w.heap.size w w1 := HAL.out.grown hgrow (by simp) (by intro k hk; cases hk)
    clear hi hz0 hz1 hz2
    go_wp2_with fail
    go_ret
    exact ⟨_, _, rfl, hown, hbl⟩
set_option maxRecDepth 100000 in
set_option maxHeartbeats 4000000 in
theorem clone_link (A : Option Addr) (c : Nat) (L : List KV) (w : World) (hl : L.length ≤ 1000000) (hC : CellsIn 2 KV.cells w A L) :
    Calls Tryd.prog 85 #[.slice A L.length c] w fun e w' => ∃ A' c', e = .returned (.slice A' L.length c') ∧ RowOf w' w.heap.size 94 2 KV.cells A' c' L ∧ Below w.heap.size w w' := by
  have hq := fun (w : World) (a : Option Addr) (n c n' c' : Nat) => Lib.run_eql_slice_nil (P := Tryd.prog) w 29 94 a n c n' c' Tryd.underlying29
  cases A with
  | none =>
    obtain rfl : L = [] := by
      cases L with
      | nil => rfl
      | cons x L => obtain ⟨b, o, h, _⟩ := hC 0 x rfl; cases h
    go_enter Tryd.func85, Tryd.ntmps85
    go_wp2_with fail
    go_ret
    exact ⟨none, 0, rfl, World.ownsRow_nil .., Below.refl _ _⟩
  | some a =>
    obtain ⟨i1, hi, hz0, hz1, hz2⟩ := info_parts infoLink
    have hal := (Below.refl w.heap.size w).alloc (Nat.le_refl _) (.cells #[] 94)
    have HIN := Lib.hid (in_news len_link (by decide) (hC.below hal))
    have HMD := Lib.hid (World.ownsRow_made (base := w.heap.size) (e := 94) (size := 2) w #[] 0 (Nat.le_refl _) (Nat.zero_le _) (by simp))
    have HFL := Lib.hid (fl_len len_link L)
    have H1S := Lib.hid (one_fl one_link L)
    have HAL := Lib.hid hal
    clear hC hal
    go_enter Tryd.func85, Tryd.ntmps85
    go_wp2_with (at_builtin; refine wpList_append_lit rfl _ _ 29 rfl w.heap.size 94 i1 _ 2 32 w.heap.size Tryd.underlying29 hi hz0 hz1 hz2 rfl (by decide) rfl HMD.out (some a) L.length c (L.flatMap KV.cells) rfl HFL.out HIN.out H1S.out (by simp only [maxLen]; omega) (by omega) (by simp) ?_)
    intro A' c' w1 hown hgrow
    have hbl : Below w.heap.size w w1 := HAL.out.grown hgrow (by simp) (by intro k hk; cases hk)
    clear hi hz0 hz1 hz2
    go_wp2_with fail
    go_ret
    exact ⟨_, _, rfl, hown, hbl⟩
set_option maxRecDepth 100000 in
set_option maxHeartbeats 4000000 in
theorem clone_era (A : Option Addr) (c : Nat) (L : List EV) (w : World) (hl : L.length ≤ 1000000) (hC : CellsIn 13 EV.cells w A L) :
    Calls Tryd.prog 87 #[.slice A L.length c] w fun e w' => ∃ A' c', e = .returned (.slice A' L.length c') ∧ RowOf w' w.heap.size 47 13 EV.cells A' c' L ∧ Below w.heap.size w w' := by
  have hq := fun (w : World) (a : Option Addr) (n c n' c' : Nat) => Lib.run_eql_slice_nil (P := Tryd.prog) w 37 47 a n c n' c' Tryd.underlying37
  cases A with
  | none =>
    obtain rfl : L = [] := by
      cases L with
      | nil => rfl
      | cons x L => obtain ⟨b, o, h, _⟩ := hC 0 x rfl; cases h
    go_enter Tryd.func87, Tryd.ntmps87
    go_wp2_with fail
    go_ret
    exact ⟨none, 0, rfl, World.ownsRow_nil .., Below.refl _ _⟩
  | some a =>
    obtain ⟨i1, hi, hz0, hz1, hz2⟩ := info_parts infoEra
    have hal := (Below.refl w.heap.size w).alloc (Nat.le_refl _) (.cells #[] 47)
    have HIN := Lib.hid (in_news len_era (by decide) (hC.below hal))
    have HMD := Lib.hid (World.ownsRow_made (base := w.heap.size) (e := 47) (size := 13) w #[] 0 (Nat.le_refl _) (Nat.zero_le _) (by simp))
    have HFL := Lib.hid (fl_len len_era L)
    have H1S := Lib.hid (one_fl one_era L)
    have HAL := Lib.hid hal
    clear hC hal
    go_enter Tryd.func87, Tryd.ntmps87
    go_wp2_with (at_builtin; refine wpList_append_lit rfl _ _ 37 rfl w.heap.size 47 i1 _ 13 120 w.heap.size Tryd.underlying37 hi hz0 hz1 hz2 rfl (by decide) rfl HMD.out (some a) L.length c (L.flatMap EV.cells) rfl HFL.out HIN.out H1S.out (by simp only [maxLen]; omega) (by omega) (by simp) ?_)
    intro A' c' w1 hown hgrow
    have hbl : Below w.heap.size w w1 := HAL.out.grown hgrow (by simp) (by intro k hk; cases hk)
    clear hi hz0 hz1 hz2
    go_wp2_with fail
    go_ret
    exact ⟨_, _, rfl, hown, hbl⟩
set_option maxRecDepth 100000 in
set_option maxHeartbeats 4000000 in
theorem clone_str (A : Option Addr) (c : Nat) (L : List ByteArray) (w : World) (hl : L.length ≤ 1000000) (hC : CellsIn 1 (fun b : ByteArray => [Value.string b]) w A L) :
    Calls Tryd.prog 86 #[.slice A L.length c] w fun e w' => ∃ A' c', e = .returned (.slice A' L.length c') ∧ RowOf w' w.heap.size 9 1 (fun b : ByteArray => [Value.string b]) A' c' L ∧ Below w.heap.size w w' := by
  have hq := fun (w : World) (a : Option Addr) (n c n' c' : Nat) => Lib.run_eql_slice_nil (P := Tryd.prog) w 30 9 a n c n' c' Tryd.underlying30
  cases A with
  | none =>
    obtain rfl : L = [] := by
      cases L with
      | nil => rfl
      | cons x L => obtain ⟨b, o, h, _⟩ := hC 0 x rfl; cases h
    go_enter Tryd.func86, Tryd.ntmps86
    go_wp2_with fail
    go_ret
    exact ⟨none, 0, rfl, World.ownsRow_nil .., Below.refl _ _⟩
  | some a =>
    obtain ⟨i1, hi, hz0, hz1, hz2⟩ := info_parts infoStrC
    have hal := (Below.refl w.heap.size w).alloc (Nat.le_refl _) (.cells #[] 9)
    have HIN := Lib.hid (in_news len_str (by decide) (hC.below hal))
    have HMD := Lib.hid (World.ownsRow_made (base := w.heap.size) (e := 9) (size := 1) w #[] 0 (Nat.le_refl _) (Nat.zero_le _) (by simp))
    have HFL := Lib.hid (fl_len len_str L)
    have H1S := Lib.hid (one_fl one_str L)
    have HAL := Lib.hid hal
    clear hC hal
    go_enter Tryd.func86, Tryd.ntmps86
    go_wp2_with (at_builtin; refine wpList_append_lit rfl _ _ 30 rfl w.heap.size 9 i1 _ 1 16 w.heap.size Tryd.underlying30 hi hz0 hz1 hz2 rfl (by decide) rfl HMD.out (some a) L.length c (L.flatMap (fun b : ByteArray => [Value.string b])) rfl HFL.out HIN.out H1S.out (by simp only [maxLen]; omega) (by omega) (by simp) ?_)
    intro A' c' w1 hown hgrow
    have hbl : Below w.heap.size w w1 := HAL.out.grown hgrow (by simp) (by intro k hk; cases hk)
    clear hi hz0 hz1 hz2
    go_wp2_with fail
    go_ret
    exact ⟨_, _, rfl, hown, hbl⟩
end Go.Proofs.YtlideagcmhlkeaaDoor

/- expand.each: all FORMATs of a source are changed, or the first error comes back. -/
namespace Go.Proofs.YtlideagcmhlkeaaDoor
open Go.RowKit Go.Lib
set_option linter.unusedVariables false
set_option linter.unusedSimpArgs false

/-- the elements in front of a place are changed -/
def mixL {α : Type} (G : α → α) (L : List α) (k : Nat) : List α := (L.take k).map G ++ L.drop k
theorem mixL_zero {α : Type} (G : α → α) (L : List α) : mixL G L 0 = L := by unfold mixL; simp
theorem mixL_all {α : Type} (G : α → α) (L : List α) : mixL G L L.length = L.map G := by unfold mixL; simp
theorem mixL_len {α : Type} (G : α → α) (L : List α) (k : Nat) : (mixL G L k).length = L.length := by unfold mixL; simp; omega
theorem mixL_at {α : Type} (G : α → α) (L : List α) (k : Nat) (r : α) (h : L[k]? = some r) : (mixL G L k)[k]? = some r := by
  have hk := (List.getElem?_eq_some_iff.mp h).1
  unfold mixL
  rw [List.getElem?_append_right (by rw [List.length_map, List.length_take]; omega), List.length_map, List.length_take, List.getElem?_drop]
  rw [show k + (k - min k L.length) = k by omega]
  exact h
theorem mixL_succ {α : Type} (G : α → α) (L : List α) (k : Nat) (r : α) (h : L[k]? = some r) : mixL G L (k + 1) = (mixL G L k).set k (G r) := by
  have hk := (List.getElem?_eq_some_iff.mp h).1
  have hl : ((L.take k).map G).length = k := by rw [List.length_map, List.length_take]; omega
  unfold mixL
  rw [List.set_append_right _ _ (by omega), hl, Nat.sub_self, List.take_add_one, h, List.map_append, List.append_assoc]
  congr 1
  rw [List.drop_eq_getElem_cons hk, (List.getElem?_eq_some_iff.mp h).2]
  rfl
theorem RowOf.addr {α : Type} {W : World} {base : Nat} {e : TypeId} {m : Nat} {f : α → List Value} {A : Option Addr} {c : Nat} {L : List α} (h : RowOf W base e m f A c L) (hl : 0 < L.length) : ∃ B, A = some ⟨B, 0, none⟩ ∧ base ≤ B ∧ B < W.heap.size := by
  rcases h.2 with ⟨_, q⟩ | ⟨g, cap, cur, hv, hb, hh, _⟩
  · omega
  · injection hv with hA
    exact ⟨g, hA, hb, (Array.getElem?_eq_some_iff.1 hh).1⟩
theorem RowOf.cellAt {α : Type} {W : World} {base : Nat} {e : TypeId} {m : Nat} {f : α → List Value} {B : Nat} {c : Nat} {L : List α} (h : RowOf W base e m f (some ⟨B, 0, none⟩) c L) (hf : ∀ a, (f a).length = m) {k : Nat} {x : α} (hx : L[k]? = some x) (j : Nat) (u : Value) (hu : (f x)[j]? = some u) : W.cell? ⟨B, k * m + j, none⟩ = some u := by
  obtain ⟨b, o, hA, _, hc⟩ := h.cellsIn hf k x hx
  injection hA with hA
  injection hA with h1 h2
  subst h1
  subst h2
  have := hc j u hu
  rwa [Nat.zero_add] at this
theorem RowOf.frozenAt {α : Type} {W : World} {base : Nat} {e : TypeId} {m : Nat} {f : α → List Value} {B : Nat} {c : Nat} {L : List α} (h : RowOf W base e m f (some ⟨B, 0, none⟩) c L) (j : Nat) : W.frozen? ⟨B, j, none⟩ = false := World.ownsRow.frozenAt h j
/-- where the walk of each stands: the boxes, the copied rows, the zones that are done -/
structure Ea (w W : World) (s : SV) (G : EV → EV) (b1 g : Nat) (A1 : Option Addr) (c1 : Nat) (A2 : Option Addr) (c2 : Nat) (A3 : Option Addr) (c3 : Nat) (zA : Option Addr) (zc : Nat) (Y : List ZV) (k : Nat) : Prop where
  src : Blk W w.heap.size 32 #[.slice s.rA s.rules.length s.rc, .slice s.zA s.zones.length s.zc, .slice s.kA s.links.length s.kc, .slice s.hA s.shifts.length s.hc]
  res : Blk W (w.heap.size + 1) 32 #[.slice none 0 0, .slice none 0 0, .slice none 0 0, .slice none 0 0]
  own : Blk W g 32 #[.slice A1 s.rules.length c1, .slice zA Y.length zc, .slice A2 s.links.length c2, .slice A3 s.shifts.length c3]
  rules : RowOf W (w.heap.size + 2) 83 11 RV.cells A1 c1 s.rules
  links : RowOf W (w.heap.size + 2) 94 2 KV.cells A2 c2 s.links
  shifts : RowOf W (w.heap.size + 2) 9 1 (fun b : ByteArray => [Value.string b]) A3 c3 s.shifts
  zrow : RowOf W b1 39 2 ZV.cells zA zc Y
  zin : ZonesIn W b1 ((s.zones.map (mapE G)).take k) Y
  bel : Below w.heap.size w W
  gle : w.heap.size + 2 ≤ g ∧ g < b1 ∧ b1 ≤ W.heap.size
theorem Ea.below {w W W' : World} {s : SV} {G : EV → EV} {b1 g c1 c2 c3 zc k : Nat} {A1 A2 A3 zA : Option Addr} {Y : List ZV} (h : Ea w W s G b1 g A1 c1 A2 c2 A3 c3 zA zc Y k) (hb : Below W.heap.size W W') : Ea w W' s G b1 g A1 c1 A2 c2 A3 c3 zA zc Y k :=
  ⟨h.src.below hb h.src.lt, h.res.below hb h.res.lt, h.own.below hb h.own.lt, h.rules.below hb, h.links.below hb, h.shifts.below hb, h.zrow.below hb, h.zin.below hb, h.bel.trans (hb.mono h.bel.size), h.gle.1, h.gle.2.1, Nat.le_trans h.gle.2.2 hb.size⟩
/-- one zone more -/
theorem Ea.snoc {w W W' : World} {s : SV} {G : EV → EV} {b1 g c1 c2 c3 zc zc' k : Nat} {A1 A2 A3 zA zA' : Option Addr} {Y Y' : List ZV} (h : Ea w W s G b1 g A1 c1 A2 c2 A3 c3 zA zc Y k) (hg : W.grownBy W' (Value.slice zA Y.length zc).ownBlock) (hr : RowOf W' b1 39 2 ZV.cells zA' zc' Y')
    (hz : ZonesIn W b1 ((s.zones.map (mapE G)).take (k + 1)) Y') : Ea w (W'.setCell ⟨g, 1, none⟩ (.slice zA' Y'.length zc')) s G b1 g A1 c1 A2 c2 A3 c3 zA' zc' Y' (k + 1) := by
  have o := blk_grown h.own h.zrow hg h.gle.2.1
  have q := GS.set_ o 1 (.slice zA' Y'.length zc')
  have hlt := h.gle
  exact ⟨(blk_grown h.src h.zrow hg (by omega)).far (by show _ ≠ g; omega) _, (blk_grown h.res h.zrow hg (by omega)).far (by show _ ≠ g; omega) _, o.set_ 1 (.slice zA' Y'.length zc'), q.row (by decide) (row_other h.rules h.zrow (by decide) hg), q.row (by decide) (row_other h.links h.zrow (by decide) hg), q.row (by decide) (row_other h.shifts h.zrow (by decide) hg),
    q.row (by decide) hr, q.zones (hz.other h.zrow (by decide) hg), (own_grown h.bel h.zrow hg h.bel.size (by omega)).setCell (by show w.heap.size ≤ g; omega) _, h.gle.1, h.gle.2.1, by simpa using Nat.le_trans h.gle.2.2 hg.size⟩
theorem nilS_in (w : World) : SrcIn w nilS := ⟨fun k r h => by simp [nilS] at h, fun k r h => by simp [nilS] at h, fun k r h => by simp [nilS] at h, fun k r h => by simp [nilS] at h, fun z h => by simp [nilS] at h⟩
set_option maxRecDepth 100000 in
set_option maxHeartbeats 16000000 in
theorem each_any (F : EV → ByteArray × Int) (f : FuncId) (cap : Array Value) (s : SV) (w : World) (hS : SrcIn w s) (hf : Few30 s)
    (hent : ∀ args W, (callFunc f args).run Tryd.prog W = .ok (.enter f args) W)
    (hF : ∀ z ∈ s.zones, ∀ e ∈ z.eras, ∀ W, Below w.heap.size w W → Calls Tryd.prog f (#[.agg #[.int .i64 e.off, .int .i64 e.kind, .int .i64 e.save, .string e.set, .string e.fmt, .bool e.ui, .int .i64 e.uy, .int .i64 e.um, .int .i64 e.dk, .int .i64 e.dw, .int .i64 e.dd, .int .i64 e.asec, .int .i64 e.ab]] ++ cap) W fun x W' => x = .returned (.tuple #[.string (F e).1, .int .i64 (F e).2]) ∧ Below W.heap.size W W') :
    Calls Tryd.prog 47 #[.agg #[.slice s.rA s.rules.length s.rc, .slice s.zA s.zones.length s.zc, .slice s.kA s.links.length s.kc, .slice s.hA s.shifts.length s.hc], .func (.func f) #[] cap] w fun x w' => ∃ (t : SV) (n : Int), x = .returned (.tuple #[.agg #[.slice t.rA t.rules.length t.rc, .slice t.zA t.zones.length t.zc, .slice t.kA t.links.length t.kc, .slice t.hA t.shifts.length t.hc], .int .i64 n]) ∧ SrcG w' t ∧ Res30 F s t n ∧ Below w.heap.size w w' := by
  have HS := Lib.hid hS; have HF := Lib.hid hF; have HFW := Lib.hid hf
  have hl1 := hf.lens.1; have hl2 := hf.lens.2.1; have hl3 := hf.lens.2.2.1; have hl4 := hf.lens.2.2.2
  clear hS hf hF
  have hb0 := ((Below.refl w.heap.size w).alloc (Nat.le_refl _) (.cells #[.slice s.rA s.rules.length s.rc, .slice s.zA s.zones.length s.zc, .slice s.kA s.links.length s.kc, .slice s.hA s.shifts.length s.hc] 32)).alloc (by simp) (.cells #[.slice none 0 0, .slice none 0 0, .slice none 0 0, .slice none 0 0] 32)
  have hx0 := (Blk.new w 32 #[.slice s.rA s.rules.length s.rc, .slice s.zA s.zones.length s.zc, .slice s.kA s.links.length s.kc, .slice s.hA s.shifts.length s.hc]).alloc (.cells #[.slice none 0 0, .slice none 0 0, .slice none 0 0, .slice none 0 0] 32)
  have hr0 := Blk.newAt (w.alloc (.cells #[.slice s.rA s.rules.length s.rc, .slice s.zA s.zones.length s.zc, .slice s.kA s.links.length s.kc, .slice s.hA s.shifts.length s.hc] 32)) (w.heap.size + 1) (by simp) 32 #[.slice none 0 0, .slice none 0 0, .slice none 0 0, .slice none 0 0]
  go_enter Tryd.func47, Tryd.ntmps47
  go_upto_region 1 with fail
  obtain ⟨FV, hFV⟩ : ∃ FV, FV = Value.func (.func f) #[] cap := ⟨_, rfl⟩
  rw [← hFV]
  have HFV := Lib.hid hFV
  clear hFV
  refine wp_region_shape [(some 12, []), (some 13, [0]), (some 14, [1]), (some 15, []), (some 16, [3]), (some 17, [4, 2]), (some 18, []), (some 19, [6]), (some 20, [7, 5]), (some 21, [2, 5, 8]), (some 6, []), (none, [10, 9, 8, 0, 1, 2, 3, 4, 5, 6, 7, 8, 9, 10])] (fun y => { tmps := #[.agg #[.slice s.rA s.rules.length s.rc, .slice s.zA s.zones.length s.zc, .slice s.kA s.links.length s.kc, .slice s.hA s.shifts.length s.hc], FV, .pointer (some ⟨w.heap.size, 0, none⟩), undef, .pointer (some ⟨w.heap.size + 1, 0, none⟩), .int .i64 0, y 6, undef, undef, undef, undef, undef, y 12, y 13, y 14, y 15, y 16, y 17, y 18, y 19, y 20, y 21, undef, undef, undef, undef, undef, undef, undef, undef, undef, undef, undef, undef, undef, undef, undef, undef, undef, undef, undef, undef, undef, undef, undef, undef, undef, undef, undef, undef, undef, undef, undef, undef, undef, undef, undef, undef, undef, undef, undef, undef, undef, undef, undef, undef, undef, undef], defers := [] }) (fun _ => undef) (fun j => j == 2 || j == 5 || j == 8 || j == 9 || j == 10 || j == 11) [.pointer (some ⟨w.heap.size, 0, none⟩), .slice s.rA s.rules.length s.rc, undef, .pointer (some ⟨w.heap.size, 2, none⟩), .slice s.kA s.links.length s.kc, undef, .pointer (some ⟨w.heap.size, 3, none⟩), .slice s.hA s.shifts.length s.hc, undef, undef, undef, undef] (fun j y W => match j with | 2 => ∃ A c, y 14 = .slice A s.rules.length c ∧ RowOf W (w.heap.size + 2) 83 11 RV.cells A c s.rules | 5 => ∃ A c, y 17 = .slice A s.links.length c ∧ RowOf W (w.heap.size + 2) 94 2 KV.cells A c s.links | 8 => ∃ A c, y 20 = .slice A s.shifts.length c ∧ RowOf W (w.heap.size + 2) 9 1 (fun b : ByteArray => [Value.string b]) A c s.shifts | 9 => ∃ A1 c1 A2 c2 A3 c3, y 21 = .agg #[.slice A1 s.rules.length c1, .slice none 0 0, .slice A2 s.links.length c2, .slice A3 s.shifts.length c3] ∧ RowOf W (w.heap.size + 2) 83 11 RV.cells A1 c1 s.rules ∧ RowOf W (w.heap.size + 2) 94 2 KV.cells A2 c2 s.links ∧ RowOf W (w.heap.size + 2) 9 1 (fun b : ByteArray => [Value.string b]) A3 c3 s.shifts | 10 => ∃ g, (y 6 = .pointer (some ⟨g, 0, none⟩) ∧ w.heap.size + 2 ≤ g) ∧ ∃ a b c d, Blk W g 32 #[a, b, c, d] | 11 => ∃ g A1 c1 A2 c2 A3 c3, (y 6 = .pointer (some ⟨g, 0, none⟩) ∧ w.heap.size + 2 ≤ g) ∧ Blk W g 32 #[.slice A1 s.rules.length c1, .slice none 0 0, .slice A2 s.links.length c2, .slice A3 s.shifts.length c3] ∧ RowOf W (w.heap.size + 2) 83 11 RV.cells A1 c1 s.rules ∧ RowOf W (w.heap.size + 2) 94 2 KV.cells A2 c2 s.links ∧ RowOf W (w.heap.size + 2) 9 1 (fun b : ByteArray => [Value.string b]) A3 c3 s.shifts | _ => True) (fun j => match j with | 2 => [14] | 5 => [17] | 8 => [20] | 9 => [21] | 10 => [6] | 11 => [6] | _ => []) (GS) (fun W => Below w.heap.size w W ∧ Blk W w.heap.size 32 #[.slice s.rA s.rules.length s.rc, .slice s.zA s.zones.length s.zc, .slice s.kA s.links.length s.kc, .slice s.hA s.shifts.length s.hc] ∧ Blk W (w.heap.size + 1) 32 #[.slice none 0 0, .slice none 0 0, .slice none 0 0, .slice none 0 0]) (by kernel_rfl) (by kernel_rfl) (by decide +kernel) rfl ⟨hb0.drew, hx0, hr0⟩ ?hput1 ?hloc1 ?hmono1 ?hstep1 ?hdone1
  case hput1 =>
    intro d hd y v
    simp only [List.filterMap_cons, List.filterMap_nil, List.mem_cons, List.not_mem_nil, or_false] at hd
    rcases hd with rfl | rfl | rfl | rfl | rfl | rfl | rfl | rfl | rfl | rfl | rfl
    all_goals rfl
  case hloc1 =>
    intro j hj y y' W hk hx
    have hj' : j = 2 ∨ j = 5 ∨ j = 8 ∨ j = 9 ∨ j = 10 ∨ j = 11 := by simpa [or_assoc] using hj
    rcases hj' with rfl | rfl | rfl | rfl | rfl | rfl
    · simp only [List.forall_mem_cons, List.not_mem_nil, false_imp_iff, implies_true, and_true] at hk
      show _
      simpa only [hk] using hx
    · simp only [List.forall_mem_cons, List.not_mem_nil, false_imp_iff, implies_true, and_true] at hk
      show _
      simpa only [hk] using hx
    · simp only [List.forall_mem_cons, List.not_mem_nil, false_imp_iff, implies_true, and_true] at hk
      show _
      simpa only [hk] using hx
    · simp only [List.forall_mem_cons, List.not_mem_nil, false_imp_iff, implies_true, and_true] at hk
      show _
      simpa only [hk] using hx
    · simp only [List.forall_mem_cons, List.not_mem_nil, false_imp_iff, implies_true, and_true] at hk
      show _
      simpa only [hk] using hx
    · simp only [List.forall_mem_cons, List.not_mem_nil, false_imp_iff, implies_true, and_true] at hk
      show _
      simpa only [hk] using hx
  case hmono1 =>
    intro j hj hlast y W W' hg hx
    have hj' : j = 2 ∨ j = 5 ∨ j = 8 ∨ j = 9 ∨ j = 10 ∨ j = 11 := by simpa [or_assoc] using hj
    rcases hj' with rfl | rfl | rfl | rfl | rfl | rfl
    · exact passR (p := fun A c => y 14 = .slice A s.rules.length c) hg (by decide) hx
    · exact passR (p := fun A c => y 17 = .slice A s.links.length c) hg (by decide) hx
    · exact passR (p := fun A c => y 20 = .slice A s.shifts.length c) hg (by decide) hx
    · obtain ⟨A1, c1, A2, c2, A3, c3, h1, h2, h3, h4⟩ := hx; exact ⟨A1, c1, A2, c2, A3, c3, h1, hg.row (by decide) h2, hg.row (by decide) h3, hg.row (by decide) h4⟩
    · exact passS (p := fun g => y 6 = .pointer (some ⟨g, 0, none⟩) ∧ w.heap.size + 2 ≤ g) hg hx
    · exact absurd hlast (by decide)
  case hdone1 =>
    intro yy W1 hS hd
    have x11 : (fun (y : Nat → Value) (W : World) => ∃ g A1 c1 A2 c2 A3 c3, (y 6 = .pointer (some ⟨g, 0, none⟩) ∧ w.heap.size + 2 ≤ g) ∧ Blk W g 32 #[.slice A1 s.rules.length c1, .slice none 0 0, .slice A2 s.links.length c2, .slice A3 s.shifts.length c3] ∧ RowOf W (w.heap.size + 2) 83 11 RV.cells A1 c1 s.rules ∧ RowOf W (w.heap.size + 2) 94 2 KV.cells A2 c2 s.links ∧ RowOf W (w.heap.size + 2) 9 1 (fun b : ByteArray => [Value.string b]) A3 c3 s.shifts) yy W1 := (hd 11 (by decide)).ex rfl
    obtain ⟨hb, hx, hr⟩ := hS
    obtain ⟨g, A1, c1, A2, c2, A3, c3, ⟨e6, hg2⟩, hbg, hrow1, hrow2, hrow3⟩ := x11
    obtain rfl := HFV.out
    rw [e6]
    clear hd
    have HEA := Lib.hid (show Ea w W1 s (fmtE F) W1.heap.size g A1 c1 A2 c2 A3 c3 none 0 [] 0 from ⟨hx, hr, hbg, hrow1, hrow2, hrow3, World.ownsRow_nil .., ⟨⟨by simp, fun i z y h => by simp at h⟩, fun i y h => by simp at h, fun i j y z _ h => by simp at h⟩, hb, hg2, hbg.lt, Nat.le_refl _⟩)
    have z1 := (hx.cell 1).trans rfl
    have hl2' : (s.zones.length : Int) ≤ 1000 := by omega
    clear hx hr hbg hrow1 hrow2 hrow3 hb e6 hg2 hb0 hx0 hr0
    go_wp2_with fail
    clear z1
    go_loopw [25] (fun i W => ∃ k : Nat, k ≤ s.zones.length ∧ i = .int .i64 k ∧ ∃ zA zc Y, Ea w W s (fmtE F) W1.heap.size g A1 c1 A2 c2 A3 c3 zA zc Y k ∧ okTo30 F s.zones k 0) (fun i _ => s.zones.length - (intOf i).toNat)
    case atStart => exact ⟨0, Nat.zero_le _, rfl, none, 0, [], HEA.out, okTo30.zero _ _⟩
    case round =>
      clear HEA
      obtain ⟨wo, hwo⟩ : ∃ x, x = wr := ⟨_, rfl⟩
      subst hwo
      obtain ⟨k, hk, rfl, zA, zc, Y, hea, hok⟩ := hrel
      have HEA := Lib.hid hea; have HOK := Lib.hid hok
      by_cases hlt : k < s.zones.length
      · have hki : (k : Int) < (s.zones.length : Int) := by omega
        obtain ⟨z, hz⟩ : ∃ z, s.zones[k]? = some z := ⟨_, List.getElem?_eq_getElem hlt⟩
        obtain ⟨gz, oz, hzA, hgz, haz⟩ := (HS.out.zones.below hea.bel) k z hz
        have n0 : wo.cell? ⟨gz, oz + k * 2, none⟩ = some (.string z.name) := haz 0 _ rfl
        have n1 : wo.cell? ⟨gz, oz + k * 2 + 1, none⟩ = some (.slice z.A z.eras.length z.c) := haz 1 _ rfl
        have HZM := Lib.hid (List.mem_of_getElem? hz)
        have hle := HFW.out.eras z HZM.out
        have hal := (Below.refl wo.heap.size wo).alloc (Nat.le_refl _) (.cells #[.string z.name, .slice z.A z.eras.length z.c] 39)
        have HER := Lib.hid (((HS.out.eras z HZM.out).below hea.bel).below hal)
        have HNB := Lib.hid (Blk.new wo 39 #[.string z.name, .slice z.A z.eras.length z.c])
        have HAL := Lib.hid hal
        have HKZ := Lib.hid hz; have HLT := Lib.hid hlt
        rw [hzA]
        clear hea hok haz hz hzA hal hlt
        go_wp2_with fail
        refine (clone_era z.A z.c z.eras _ (by omega) HER.out).mono ?_
        rintro x W2 ⟨eA, ec, rfl, hrow, hc⟩
        have hzb := HNB.out.below hc (by simp)
        have hbl2 : Below wo.heap.size wo W2 := HAL.out.trans (hc.mono (by simp))
        have b1 := (hzb.cell 1).trans rfl
        have f1 := hzb.frozen 1
        have HZB := Lib.hid (hzb.set_ 1 (.slice eA z.eras.length ec))
        have HB3 := Lib.hid (hbl2.setCell (p := ⟨wo.heap.size, 1, none⟩) (Nat.le_refl _) (.slice eA z.eras.length ec))
        have HRW := Lib.hid (show RowOf _ (wo.heap.size + 1) 47 13 EV.cells eA ec z.eras from own_base (own_farj hrow wo.heap.size 1 (by simp) (.slice eA z.eras.length ec)) (by simp))
        have q1 := (HZB.out.cell 1).trans rfl
        have hle2 : (z.eras.length : Int) ≤ 1000 := by omega
        clear hzb hbl2 hrow hc HNB HAL HER n0 n1 hgz
        go_wp2_with fail
        clear b1 f1 q1
        go_loopw [36] (fun j W => ∃ i : Nat, i ≤ z.eras.length ∧ j = .int .i64 i ∧ Below wo.heap.size wo W ∧ Blk W wo.heap.size 39 #[.string z.name, .slice eA z.eras.length ec] ∧ RowOf W (wo.heap.size + 1) 47 13 EV.cells eA ec (mixL (fmtE F) z.eras i) ∧ okTo30 F s.zones k i) (fun j _ => z.eras.length - (intOf j).toNat)
        case atStart => exact ⟨0, Nat.zero_le _, rfl, HB3.out, HZB.out, by rw [mixL_zero]; exact HRW.out, HOK.out⟩
        case round =>
          clear HB3 HZB HRW HOK
          obtain ⟨i, hi, rfl, hbw, hzb, hrow, hok⟩ := hrel
          by_cases hilt : i < z.eras.length
          · obtain ⟨e, he⟩ : ∃ e, z.eras[i]? = some e := ⟨_, List.getElem?_eq_getElem hilt⟩
            obtain ⟨ge, rfl, hge1, hge2⟩ := hrow.addr (by rw [mixL_len]; omega)
            have hii : (i : Int) < (z.eras.length : Int) := by omega
            have HMA := Lib.hid (mixL_at (fmtE F) z.eras i e he)
            have y0 : wr.cell? ⟨ge, i * 13, none⟩ = some (.int .i64 e.off) := hrow.cellAt len_era HMA.out 0 _ rfl
            have y1 := hrow.cellAt len_era HMA.out 1 _ rfl
            have y2 := hrow.cellAt len_era HMA.out 2 _ rfl
            have y3 := hrow.cellAt len_era HMA.out 3 _ rfl
            have y4 := hrow.cellAt len_era HMA.out 4 _ rfl
            have y5 := hrow.cellAt len_era HMA.out 5 _ rfl
            have y6 := hrow.cellAt len_era HMA.out 6 _ rfl
            have y7 := hrow.cellAt len_era HMA.out 7 _ rfl
            have y8 := hrow.cellAt len_era HMA.out 8 _ rfl
            have y9 := hrow.cellAt len_era HMA.out 9 _ rfl
            have y10 := hrow.cellAt len_era HMA.out 10 _ rfl
            have y11 := hrow.cellAt len_era HMA.out 11 _ rfl
            have y12 := hrow.cellAt len_era HMA.out 12 _ rfl
            have q1 := (hzb.cell 1).trans rfl
            have HEM := Lib.hid (List.mem_of_getElem? he); have HE := Lib.hid he; have HI := Lib.hid hilt
            have HBW := Lib.hid hbw; have HZB := Lib.hid hzb; have HRW := Lib.hid hrow; have HOK := Lib.hid hok
            have HGE := Lib.hid (And.intro hge1 hge2)
            clear hbw hzb hrow hok he hilt hge1 hge2
            go_wp2_with fail
            refine (HF.out z HZM.out e HEM.out _ (HEA.out.bel.trans (HBW.out.mono HEA.out.bel.size))).mono ?_
            rintro x W4 ⟨rfl, hc⟩
            have hb4 := HBW.out.trans (hc.mono HBW.out.size)
            have hzb4 := HZB.out.below hc HZB.out.lt
            have hrow4 := HRW.out.below hc
            have q4 := (hzb4.cell 1).trans rfl
            have p4 := hrow4.cellAt len_era HMA.out 4 _ rfl
            have f4 := hrow4.frozenAt (i * 13 + 4)
            have HB4 := Lib.hid hb4; have HZB4 := Lib.hid hzb4; have HRW4 := Lib.hid hrow4
            have HFE := Lib.hid (show (F e).2 = (F e).2 from rfl)
            obtain ⟨X, N, hXN⟩ : ∃ X N, F e = (X, N) := ⟨_, _, rfl⟩
            have HXN := Lib.hid hXN
            rw [hXN]
            clear hc hb4 hzb4 hrow4 hXN HFE q1 y0 y1 y2 y3 y4 y5 y6 y7 y8 y9 y10 y11 y12
            by_cases hn : N = 0
            · have hd : (N == 0) = true := by rw [hn]; rfl
              have HN := Lib.hid hn
              clear hn
              go_wp2_with fail
              go_roundw
              case rel => exact ⟨i + 1, by have := HI.out; omega, by go_num, HB4.out.setCell (by show wo.heap.size ≤ ge; have := HGE.out; omega) _, HZB4.out.far (by show wo.heap.size ≠ ge; have := HGE.out; omega) _, by rw [mixL_succ _ _ _ _ HE.out]; exact HRW4.out.set_ len_era i 4 e (fmtE F e) _ (by decide) HMA.out (by unfold fmtE; rw [HXN.out]; rfl), HOK.out.step HKZ.out HE.out (by rw [HXN.out]; exact HN.out)⟩
              case measure => have := HI.out; simp [intOf]; omega
            · have hd : (N == 0) = false := by simpa using hn
              have hE4 := HEA.out.below (HB4.out)
              have r0 := (hE4.res.cell 0).trans rfl; have g0 := hE4.res.frozen 0
              have r1 := (hE4.res.cell 1).trans rfl; have g1 := hE4.res.frozen 1
              have r2 := (hE4.res.cell 2).trans rfl; have g2 := hE4.res.frozen 2
              have r3 := (hE4.res.cell 3).trans rfl; have g3 := hE4.res.frozen 3
              have HN := Lib.hid hn
              have HR4 := Lib.hid ((((hE4.res.set_ 0 (.slice none 0 0)).set_ 1 (.slice none 0 0)).set_ 2 (.slice none 0 0)).set_ 3 (.slice none 0 0))
              have k0 := (HR4.out.cell 0).trans rfl; have k1 := (HR4.out.cell 1).trans rfl; have k2 := (HR4.out.cell 2).trans rfl; have k3 := (HR4.out.cell 3).trans rfl
              have HE4 := Lib.hid hE4
              clear hn hE4
              go_wp2_with fail
              refine bodyPost_ret (v := .tuple #[.agg #[.slice none 0 0, .slice none 0 0, .slice none 0 0, .slice none 0 0], .int .i64 N]) (by simp [results, Tryd.results47, go_sem, k0, k1, k2, k3]) rfl ?_
              refine ⟨nilS, N, rfl, fun V _ => nilS_in V, ⟨?_, fun h => absurd h HN.out, fun _ => sSame14.rfl' _⟩, ?_⟩
              · have q := ErrIs.bad HOK.out HKZ.out HE.out (by rw [HXN.out]; exact HN.out)
                rw [HXN.out] at q
                exact q
              · exact (((HE4.out.bel.setCell (p := ⟨w.heap.size + 1, 0, none⟩) (by simp) _).setCell (p := ⟨w.heap.size + 1, 1, none⟩) (by simp) _).setCell (p := ⟨w.heap.size + 1, 2, none⟩) (by simp) _).setCell (p := ⟨w.heap.size + 1, 3, none⟩) (by simp) _
          · obtain rfl : i = z.eras.length := by omega
            rw [mixL_all] at hrow
            have hea := HEA.out.below hbw
            have o1 := (hea.own.cell 1).trans rfl
            have z0 := (hzb.cell 0).trans rfl
            have z1 := (hzb.cell 1).trans rfl
            have hal := (Below.refl wr.heap.size wr).alloc (Nat.le_refl _) (.cells #[.string z.name, .slice eA z.eras.length ec] 39)
            have HE5 := Lib.hid (hea.below hal)
            have HNB := Lib.hid (Blk.new wr 39 #[.string z.name, .slice eA z.eras.length ec])
            have HZ5 := Lib.hid (zones_snocG (z := mapE (fmtE F) z) HEA.out.zin (by rw [List.getElem?_map, HKZ.out]; rfl) (hbw.trans (hal.mono hbw.size)) HEA.out.gle.2.2 (Nat.le_succ _) (hrow.below hal))
            have HYL : Hid (Y.length ≤ 1000) := Lib.hid (by have h1 := HEA.out.zin.same.1; rw [List.length_take, List.length_map] at h1; omega)
            have hsz : W1.heap.size ≤ (wr.alloc (.cells #[.string z.name, .slice eA z.eras.length ec] 39)).heap.size := HE5.out.gle.2.2
            have HSZ := Lib.hid hsz
            have HOK := Lib.hid (hok.zone HKZ.out (Nat.le_refl _))
            obtain ⟨i2, hi2, hz0, hz1, hz2⟩ := info_parts infoZone
            clear hea hal hbw hzb hrow hok HEA
            go_wp2_with (at_builtin; refine wpList_append_own _ rfl _ _ 28 rfl W1.heap.size 39 i2 _ 2 40 Tryd.underlying28 hi2 hz0 hz1 hz2 rfl (by decide) _ _ _ rfl HE5.out.zrow ⟨wr.heap.size, 0, none⟩ 1 1 [.string z.name, .slice eA z.eras.length ec] rfl rfl (blk_cells HNB.out) (by simp [Value.oneCell']) (by have := HYL.out; simp only [maxLen]; omega) (by have := HYL.out; omega) HSZ.out ?_)
            intro v1 W6 hown hgr hne
            obtain ⟨zA', zc', rfl⟩ := row_is hown
            have HRZ := Lib.hid (show RowOf W6 W1.heap.size 39 2 ZV.cells zA' zc' (Y ++ [⟨z.name, eA, ec, z.eras.map (fmtE F)⟩]) from by
              unfold RowOf
              rw [List.length_append, List.flatMap_append]
              have q : ([⟨z.name, eA, ec, z.eras.map (fmtE F)⟩] : List ZV).flatMap ZV.cells = [.string z.name, .slice eA z.eras.length ec] := by simp [ZV.cells]
              rw [q]
              exact hown)
            have HE7 := Lib.hid (HE5.out.snoc hgr HRZ.out HZ5.out)
            have hob := blk_grown HE5.out.own HE5.out.zrow hgr HE5.out.gle.2.1
            have o2 := (hob.cell 1).trans rfl
            have f2 := hob.frozen 1
            clear hown hgr hne hob HE5 HNB HZ5 HYL HSZ hsz z0 z1 o1 hi2 hz0 hz1 hz2
            go_wp2_with fail
            go_roundw
            case rel => exact ⟨k + 1, by have := HLT.out; omega, by go_num, zA', zc', Y ++ ([⟨z.name, eA, ec, z.eras.map (fmtE F)⟩] : List ZV), by have q := HE7.out; rwa [List.length_append] at q, HOK.out⟩
            case measure => have := HLT.out; simp [intOf]; omega
      · obtain rfl : k = s.zones.length := by omega
        have p0 := (hea.own.cell 0).trans rfl; have p1 := (hea.own.cell 1).trans rfl; have p2 := (hea.own.cell 2).trans rfl; have p3 := (hea.own.cell 3).trans rfl
        have r0 := (hea.res.cell 0).trans rfl; have r1 := (hea.res.cell 1).trans rfl; have r2 := (hea.res.cell 2).trans rfl; have r3 := (hea.res.cell 3).trans rfl
        have g0 := hea.res.frozen 0; have g1 := hea.res.frozen 1; have g2 := hea.res.frozen 2; have g3 := hea.res.frozen 3
        have t1 := hea.res.set_ 0 (.slice A1 s.rules.length c1)
        have t2 := t1.set_ 1 (.slice zA Y.length zc)
        have t3 := t2.set_ 2 (.slice A2 s.links.length c2)
        have t4 := t3.set_ 3 (.slice A3 s.shifts.length c3)
        have hG := (GS.set_ hea.res 0 (.slice A1 s.rules.length c1)).trans ((GS.set_ t1 1 (.slice zA Y.length zc)).trans ((GS.set_ t2 2 (.slice A2 s.links.length c2)).trans (GS.set_ t3 3 (.slice A3 s.shifts.length c3))))
        have HG := Lib.hid hG
        have k0 := (t4.cell 0).trans rfl; have k1 := (t4.cell 1).trans rfl; have k2 := (t4.cell 2).trans rfl; have k3 := (t4.cell 3).trans rfl
        clear hea hok t1 t2 t3 t4 hG
        go_wp2_with fail
        refine bodyPost_ret (v := .tuple #[.agg #[.slice A1 s.rules.length c1, .slice zA Y.length zc, .slice A2 s.links.length c2, .slice A3 s.shifts.length c3], .int .i64 0]) (by simp [results, Tryd.results47, go_sem, k0, k1, k2, k3]) rfl ?_
        have hzi := HEA.out.zin
        rw [show (s.zones.map (mapE (fmtE F))).take s.zones.length = s.zones.map (mapE (fmtE F)) by rw [List.take_of_length_le]; simp] at hzi
        refine ⟨⟨A1, c1, s.rules, zA, zc, Y, A2, c2, s.links, A3, c3, s.shifts⟩, 0, rfl, fun V hV => ⟨((HG.out.trans hV).row (by decide) HEA.out.rules).cellsIn len_rule, ((HG.out.trans hV).row (by decide) HEA.out.zrow).cellsIn len_zone, ((HG.out.trans hV).row (by decide) HEA.out.links).cellsIn len_link, ((HG.out.trans hV).row (by decide) HEA.out.shifts).cellsIn len_str, fun z hz => ?_⟩, ⟨ErrIs.ok HOK.out (Nat.le_refl _), fun _ => ⟨rfl, rfl, rfl, hzi.same.1, fun i z y _ hz hy => hzi.same.2 i y z hy hz⟩, fun h => absurd rfl h⟩, ?_⟩
        · obtain ⟨i, hi⟩ := List.mem_iff_getElem?.1 hz
          exact ((HG.out.trans hV).row (by decide) (HEA.out.zin.eras i z hi)).cellsIn len_era
        · exact (((HEA.out.bel.setCell (p := ⟨w.heap.size + 1, 0, none⟩) (by simp) _).setCell (p := ⟨w.heap.size + 1, 1, none⟩) (by simp) _).setCell (p := ⟨w.heap.size + 1, 2, none⟩) (by simp) _).setCell (p := ⟨w.heap.size + 1, 3, none⟩) (by simp) _
  case hstep1 =>
    refine StepsOk.cons (StepOk.known rfl fun y W hS hd K' hK => ?_) ?_
    · skip
      clear hd
      go_simp
      exact hK.out _ _ rfl (GS.refl _) hS
    refine StepsOk.cons (StepOk.known rfl fun y W hS hd K' hK => ?_) ?_
    · skip
      have e12 : y 12 = .pointer (some ⟨w.heap.size, 0, none⟩) := (hd 0 rfl).val rfl rfl
      clear hd
      have hc := (hS.2.1.cell 0).trans rfl
      go_simp
      exact hK.out _ _ (by first | rfl | (simp only [e12]; done) | (simp only [e12]; rfl)) (GS.refl _) hS
    refine StepsOk.cons (StepOk.other rfl fun y W hS hd K' hK => ?_) ?_
    · skip
      have e13 : y 13 = .slice s.rA s.rules.length s.rc := (hd 1 rfl).val rfl rfl
      clear hd
      go_simp
      obtain ⟨hb, hx, hr⟩ := hS
      refine (clone_rule _ _ _ W (by omega) (HS.out.rules.below hb)).mono ?_
      rintro e W' ⟨A, c, rfl, hrow, hc⟩
      go_wp2_with fail
      have hle := hr.lt
      exact hK.out _ _ _ (by first | rfl | (simp only [e13]; done) | (simp only [e13]; rfl)) (GS.below hc) ⟨hb.trans (hc.mono hb.size), hx.below hc hx.lt, hr.below hc hr.lt⟩ (show ∃ A c, _ = Value.slice A s.rules.length c ∧ RowOf _ (w.heap.size + 2) 83 11 RV.cells A c s.rules from ⟨A, c, rfl, hrow.low (by omega)⟩)
    refine StepsOk.cons (StepOk.known rfl fun y W hS hd K' hK => ?_) ?_
    · skip
      clear hd
      go_simp
      exact hK.out _ _ rfl (GS.refl _) hS
    refine StepsOk.cons (StepOk.known rfl fun y W hS hd K' hK => ?_) ?_
    · skip
      have e15 : y 15 = .pointer (some ⟨w.heap.size, 2, none⟩) := (hd 3 rfl).val rfl rfl
      clear hd
      have hc := (hS.2.1.cell 2).trans rfl
      go_simp
      exact hK.out _ _ (by first | rfl | (simp only [e15]; done) | (simp only [e15]; rfl)) (GS.refl _) hS
    refine StepsOk.cons (StepOk.other rfl fun y W hS hd K' hK => ?_) ?_
    · skip
      have x2 : (fun (y : Nat → Value) (W : World) => ∃ A c, y 14 = .slice A s.rules.length c ∧ RowOf W (w.heap.size + 2) 83 11 RV.cells A c s.rules) y W := (hd 2 rfl).ex rfl
      have e16 : y 16 = .slice s.kA s.links.length s.kc := (hd 4 rfl).val rfl rfl
      clear hd
      go_simp
      obtain ⟨hb, hx, hr⟩ := hS
      refine (clone_link _ _ _ W (by omega) (HS.out.links.below hb)).mono ?_
      rintro e W' ⟨A, c, rfl, hrow, hc⟩
      go_wp2_with fail
      have hle := hr.lt
      exact hK.out _ _ _ (by first | rfl | (simp only [e16]; done) | (simp only [e16]; rfl)) (GS.below hc) ⟨hb.trans (hc.mono hb.size), hx.below hc hx.lt, hr.below hc hr.lt⟩ (show ∃ A c, _ = Value.slice A s.links.length c ∧ RowOf _ (w.heap.size + 2) 94 2 KV.cells A c s.links from ⟨A, c, rfl, hrow.low (by omega)⟩)
    refine StepsOk.cons (StepOk.known rfl fun y W hS hd K' hK => ?_) ?_
    · skip
      clear hd
      go_simp
      exact hK.out _ _ rfl (GS.refl _) hS
    refine StepsOk.cons (StepOk.known rfl fun y W hS hd K' hK => ?_) ?_
    · skip
      have e18 : y 18 = .pointer (some ⟨w.heap.size, 3, none⟩) := (hd 6 rfl).val rfl rfl
      clear hd
      have hc := (hS.2.1.cell 3).trans rfl
      go_simp
      exact hK.out _ _ (by first | rfl | (simp only [e18]; done) | (simp only [e18]; rfl)) (GS.refl _) hS
    refine StepsOk.cons (StepOk.other rfl fun y W hS hd K' hK => ?_) ?_
    · skip
      have x5 : (fun (y : Nat → Value) (W : World) => ∃ A c, y 17 = .slice A s.links.length c ∧ RowOf W (w.heap.size + 2) 94 2 KV.cells A c s.links) y W := (hd 5 rfl).ex rfl
      have e19 : y 19 = .slice s.hA s.shifts.length s.hc := (hd 7 rfl).val rfl rfl
      clear hd
      go_simp
      obtain ⟨hb, hx, hr⟩ := hS
      refine (clone_str _ _ _ W (by omega) (HS.out.shifts.below hb)).mono ?_
      rintro e W' ⟨A, c, rfl, hrow, hc⟩
      go_wp2_with fail
      have hle := hr.lt
      exact hK.out _ _ _ (by first | rfl | (simp only [e19]; done) | (simp only [e19]; rfl)) (GS.below hc) ⟨hb.trans (hc.mono hb.size), hx.below hc hx.lt, hr.below hc hr.lt⟩ (show ∃ A c, _ = Value.slice A s.shifts.length c ∧ RowOf _ (w.heap.size + 2) 9 1 (fun b : ByteArray => [Value.string b]) A c s.shifts from ⟨A, c, rfl, hrow.low (by omega)⟩)
    refine StepsOk.cons (StepOk.other rfl fun y W hS hd K' hK => ?_) ?_
    · skip
      have x2 : (fun (y : Nat → Value) (W : World) => ∃ A c, y 14 = .slice A s.rules.length c ∧ RowOf W (w.heap.size + 2) 83 11 RV.cells A c s.rules) y W := (hd 2 rfl).ex rfl
      have x5 : (fun (y : Nat → Value) (W : World) => ∃ A c, y 17 = .slice A s.links.length c ∧ RowOf W (w.heap.size + 2) 94 2 KV.cells A c s.links) y W := (hd 5 rfl).ex rfl
      have x8 : (fun (y : Nat → Value) (W : World) => ∃ A c, y 20 = .slice A s.shifts.length c ∧ RowOf W (w.heap.size + 2) 9 1 (fun b : ByteArray => [Value.string b]) A c s.shifts) y W := (hd 8 rfl).ex rfl
      clear hd
      obtain ⟨A1, c1, h1, h4⟩ := x2
      obtain ⟨A2, c2, h2, h5⟩ := x5
      obtain ⟨A3, c3, h3, h6⟩ := x8
      go_simp
      exact hK.out _ _ _ (by first | rfl | (simp only [h1, h2, h3]; done) | (simp only [h1, h2, h3]; rfl)) (GS.refl _) hS (show ∃ A1 c1 A2 c2 A3 c3, _ = Value.agg #[.slice A1 s.rules.length c1, .slice none 0 0, .slice A2 s.links.length c2, .slice A3 s.shifts.length c3] ∧ RowOf _ (w.heap.size + 2) 83 11 RV.cells A1 c1 s.rules ∧ RowOf _ (w.heap.size + 2) 94 2 KV.cells A2 c2 s.links ∧ RowOf _ (w.heap.size + 2) 9 1 (fun b : ByteArray => [Value.string b]) A3 c3 s.shifts from ⟨A1, c1, A2, c2, A3, c3, rfl, h4, h5, h6⟩)
    refine StepsOk.cons (StepOk.other rfl fun y W hS hd K' hK => ?_) ?_
    · skip
      clear hd
      obtain ⟨hb, hx, hr⟩ := hS
      have hle := hr.lt
      go_simp
      exact hK.out _ _ _ rfl (GS.alloc W _) ⟨hb.alloc hb.size _, hx.alloc _, hr.alloc _⟩ (show ∃ g, (_ = Value.pointer (some ⟨g, 0, none⟩) ∧ w.heap.size + 2 ≤ g) ∧ ∃ a b c d, Blk _ g 32 #[a, b, c, d] from ⟨W.heap.size, ⟨rfl, by omega⟩, _, _, _, _, Blk.new W 32 #[.slice none 0 0, .slice none 0 0, .slice none 0 0, .slice none 0 0]⟩)
    refine StepsOk.cons (StepOk.other rfl fun y W hS hd K' hK => ?_) ?_
    · skip
      have x9 : (fun (y : Nat → Value) (W : World) => ∃ A1 c1 A2 c2 A3 c3, y 21 = .agg #[.slice A1 s.rules.length c1, .slice none 0 0, .slice A2 s.links.length c2, .slice A3 s.shifts.length c3] ∧ RowOf W (w.heap.size + 2) 83 11 RV.cells A1 c1 s.rules ∧ RowOf W (w.heap.size + 2) 94 2 KV.cells A2 c2 s.links ∧ RowOf W (w.heap.size + 2) 9 1 (fun b : ByteArray => [Value.string b]) A3 c3 s.shifts) y W := (hd 9 rfl).ex rfl
      have x10 : (fun (y : Nat → Value) (W : World) => ∃ g, (y 6 = .pointer (some ⟨g, 0, none⟩) ∧ w.heap.size + 2 ≤ g) ∧ ∃ a b c d, Blk W g 32 #[a, b, c, d]) y W := (hd 10 rfl).ex rfl
      clear hd
      obtain ⟨g, ⟨h1, h2⟩, a, b, c, d, hr0⟩ := x10
      obtain ⟨A1, c1, A2, c2, A3, c3, h3, h4, h5, h6⟩ := x9
      have k0 := (hr0.cell 0).trans rfl
      have k1 := (hr0.cell 1).trans rfl
      have k2 := (hr0.cell 2).trans rfl
      have k3 := (hr0.cell 3).trans rfl
      have f0 := hr0.frozen 0
      have f1 := hr0.frozen 1
      have f2 := hr0.frozen 2
      have f3 := hr0.frozen 3
      have hr1 : Blk _ g 32 #[.slice A1 s.rules.length c1, b, c, d] := hr0.set_ 0 (.slice A1 s.rules.length c1)
      have q1 := GS.set_ hr0 0 (.slice A1 s.rules.length c1)
      have hr2 : Blk _ g 32 #[.slice A1 s.rules.length c1, .slice none 0 0, c, d] := hr1.set_ 1 (.slice none 0 0)
      have q2 := GS.set_ hr1 1 (.slice none 0 0)
      have hr3 : Blk _ g 32 #[.slice A1 s.rules.length c1, .slice none 0 0, .slice A2 s.links.length c2, d] := hr2.set_ 2 (.slice A2 s.links.length c2)
      have q3 := GS.set_ hr2 2 (.slice A2 s.links.length c2)
      have hr4 : Blk _ g 32 #[.slice A1 s.rules.length c1, .slice none 0 0, .slice A2 s.links.length c2, .slice A3 s.shifts.length c3] := hr3.set_ 3 (.slice A3 s.shifts.length c3)
      have q4 := GS.set_ hr3 3 (.slice A3 s.shifts.length c3)
      have hG := q1.trans (q2.trans (q3.trans q4))
      obtain ⟨hb, hx, hr⟩ := hS
      have hb2 := (((hb.setCell (p := ⟨g, 0, none⟩) (by show w.heap.size ≤ g; omega) (.slice A1 s.rules.length c1)).setCell (p := ⟨g, 1, none⟩) (by show w.heap.size ≤ g; omega) (.slice none 0 0)).setCell (p := ⟨g, 2, none⟩) (by show w.heap.size ≤ g; omega) (.slice A2 s.links.length c2)).setCell (p := ⟨g, 3, none⟩) (by show w.heap.size ≤ g; omega) (.slice A3 s.shifts.length c3)
      have hx2 := (((hx.far (p := ⟨g, 0, none⟩) (by show _ ≠ g; omega) (.slice A1 s.rules.length c1)).far (p := ⟨g, 1, none⟩) (by show _ ≠ g; omega) (.slice none 0 0)).far (p := ⟨g, 2, none⟩) (by show _ ≠ g; omega) (.slice A2 s.links.length c2)).far (p := ⟨g, 3, none⟩) (by show _ ≠ g; omega) (.slice A3 s.shifts.length c3)
      have hr2 := (((hr.far (p := ⟨g, 0, none⟩) (by show _ ≠ g; omega) (.slice A1 s.rules.length c1)).far (p := ⟨g, 1, none⟩) (by show _ ≠ g; omega) (.slice none 0 0)).far (p := ⟨g, 2, none⟩) (by show _ ≠ g; omega) (.slice A2 s.links.length c2)).far (p := ⟨g, 3, none⟩) (by show _ ≠ g; omega) (.slice A3 s.shifts.length c3)
      have HH := Lib.hid (And.intro hr4 (And.intro hG (And.intro hb2 (And.intro hx2 (And.intro hr2 (And.intro (hG.row (by decide) h4) (And.intro (hG.row (by decide) h5) (hG.row (by decide) h6))))))))
      clear q1 q2 q3 q4 hG hb2 hb hx2 h4 h5 h6
      go_simp
      exact hK.out undef _ _ (by first | rfl | (simp only [h1, h3]; done) | (simp only [h1, h3]; rfl)) HH.out.2.1 ⟨HH.out.2.2.1, HH.out.2.2.2.1, HH.out.2.2.2.2.1⟩ (show ∃ g A1 c1 A2 c2 A3 c3, (y 6 = Value.pointer (some ⟨g, 0, none⟩) ∧ w.heap.size + 2 ≤ g) ∧ Blk _ g 32 #[.slice A1 s.rules.length c1, .slice none 0 0, .slice A2 s.links.length c2, .slice A3 s.shifts.length c3] ∧ RowOf _ (w.heap.size + 2) 83 11 RV.cells A1 c1 s.rules ∧ RowOf _ (w.heap.size + 2) 94 2 KV.cells A2 c2 s.links ∧ RowOf _ (w.heap.size + 2) 9 1 (fun b : ByteArray => [Value.string b]) A3 c3 s.shifts from ⟨g, A1, c1, A2, c2, A3, c3, ⟨h1, h2⟩, HH.out.1, HH.out.2.2.2.2.2⟩)
    exact StepsOk.nil

end Go.Proofs.YtlideagcmhlkeaaDoor

/- What the steps keep of the drawn region in which a zone is copied. No function of the program. -/
namespace Go.Proofs.YtlideagcmhlkeaaDoor
open Go.RowKit
set_option linter.unusedVariables false

/-- what a step keeps: blocks stay as they are but for boxes of sources and, ahead of the part, rows of zones below N -/
structure GZ (N : Nat) (b : Bool) (W W' : World) : Prop where
  far : ∀ (g : Nat) (e : TypeId) (cur : Array Value), e ≠ 32 → (e ≠ 39 ∨ N ≤ g ∨ b = true) → W.heap[g]? = some (.cells cur e (0, 0)) → W'.heap[g]? = some (.cells cur e (0, 0))
  own : ∀ g, (∃ a b c d, Blk W g 32 #[a, b, c, d]) → ∃ a b c d, Blk W' g 32 #[a, b, c, d]
theorem GZ.gs {N : Nat} (b : Bool) {W W' : World} (h : GS W W') : GZ N b W W' := ⟨fun g e cur he _ hb => h.far g e cur he hb, h.own⟩
theorem GZ.refl (N : Nat) (b : Bool) (W : World) : GZ N b W W := GZ.gs b (GS.refl W)
theorem GZ.below {N : Nat} (b : Bool) {W W' : World} (h : Below W.heap.size W W') : GZ N b W W' := GZ.gs b (GS.below h)
theorem GZ.row {N : Nat} {b : Bool} {α : Type} {W W' : World} {base : Nat} {e : TypeId} {m : Nat} {f : α → List Value} {A : Option Addr} {c : Nat} {L : List α} (hg : GZ N b W W') (he : e ≠ 32) (hz : e ≠ 39) (h : RowOf W base e m f A c L) : RowOf W' base e m f A c L := by
  refine ⟨h.1, ?_⟩
  rcases h.2 with q | ⟨g, cap, cur, hv, hb, hh, hr⟩
  · exact .inl q
  · exact .inr ⟨g, cap, cur, hv, hb, hg.far g e cur he (.inl hz) hh, hr⟩
theorem GZ.rowT {N : Nat} {α : Type} {W W' : World} {base : Nat} {e : TypeId} {m : Nat} {f : α → List Value} {A : Option Addr} {c : Nat} {L : List α} (hg : GZ N true W W') (he : e ≠ 32) (h : RowOf W base e m f A c L) : RowOf W' base e m f A c L := by
  refine ⟨h.1, ?_⟩
  rcases h.2 with q | ⟨g, cap, cur, hv, hb, hh, hr⟩
  · exact .inl q
  · exact .inr ⟨g, cap, cur, hv, hb, hg.far g e cur he (.inr (.inr rfl)) hh, hr⟩
theorem Lit0.passZ {N : Nat} {b : Bool} {W W' : World} {base : Nat} {e : TypeId} {m : Nat} {v : Value} (hg : GZ N b W W') (he : e ≠ 32) (hz : e ≠ 39) (h : Lit0 W base e m v) : Lit0 W' base e m v := by
  obtain ⟨B, h1, h2⟩ := h
  refine ⟨B, h1, h2.1, ?_⟩
  rcases h2.2 with q | ⟨g, cap, cur, hv, hb, hh, hr⟩
  · exact .inl q
  · exact .inr ⟨g, cap, cur, hv, hb, hg.far g e cur he (.inl hz) hh, hr⟩
theorem GZ.grown {N : Nat} {W W' : World} {b1 zc : Nat} {zA : Option Addr} {Y : List ZV} (hz : RowOf W b1 39 2 ZV.cells zA zc Y) (hK : ∀ K, (Value.slice zA Y.length zc).ownBlock = some K → K < N) (hgr : W.grownBy W' (Value.slice zA Y.length zc).ownBlock) : GZ N false W W' := by
  refine ⟨fun g e cur he hh hb => (hgr.block g (Array.getElem?_eq_some_iff.1 hb).1 fun q => ?_).trans hb, fun g ⟨a, b, c, d, hb⟩ => ⟨a, b, c, d, (hgr.block g hb.lt fun q => ?_).trans hb⟩⟩
  · obtain ⟨cur', hc⟩ := block_of hz q.symm
    rw [hb] at hc
    injection hc with hc
    injection hc with _ hc _
    have := hK g q.symm
    rcases hh with h | h | h
    · exact h hc
    · omega
    · cases h
  · obtain ⟨cur', hc⟩ := block_of hz q.symm
    unfold Blk at hb
    rw [hb] at hc
    injection hc with hc
    injection hc with _ hc _
    revert hc
    decide
theorem zrow_snoc {W : World} {b1 zc : Nat} {zA A : Option Addr} {c : Nat} {Y : List ZV} {nm : ByteArray} {E : List EV} (h : W.ownsRow b1 39 2 (.slice zA (Y.length + 1) zc) (Y.length + 1) (Y.flatMap ZV.cells ++ [.string nm, .slice A E.length c])) : RowOf W b1 39 2 ZV.cells zA zc (Y ++ [⟨nm, A, c, E⟩]) := by
  unfold RowOf
  rw [List.length_append, List.flatMap_append]
  have q : ([⟨nm, A, c, E⟩] : List ZV).flatMap ZV.cells = [.string nm, .slice A E.length c] := by simp [ZV.cells]
  rw [q]
  exact h
/-- where the region stands; b: the zone is appended -/
structure Eb (w W : World) (s : SV) (G : EV → EV) (b1 g : Nat) (A1 : Option Addr) (c1 : Nat) (A2 : Option Addr) (c2 : Nat) (A3 : Option Addr) (c3 : Nat) (zA : Option Addr) (zc : Nat) (Y : List ZV) (k : Nat) (b : Bool) (W0 : World) : Prop where
  src : Blk W w.heap.size 32 #[.slice s.rA s.rules.length s.rc, .slice s.zA s.zones.length s.zc, .slice s.kA s.links.length s.kc, .slice s.hA s.shifts.length s.hc]
  res : Blk W (w.heap.size + 1) 32 #[.slice none 0 0, .slice none 0 0, .slice none 0 0, .slice none 0 0]
  rules : RowOf W (w.heap.size + 2) 83 11 RV.cells A1 c1 s.rules
  links : RowOf W (w.heap.size + 2) 94 2 KV.cells A2 c2 s.links
  shifts : RowOf W (w.heap.size + 2) 9 1 (fun b : ByteArray => [Value.string b]) A3 c3 s.shifts
  zin : ZonesIn W b1 ((s.zones.map (mapE G)).take k) Y
  bel : Below w.heap.size w W
  le : W0.heap.size ≤ W.heap.size
  own : ∃ v, Blk W g 32 #[.slice A1 s.rules.length c1, v, .slice A2 s.links.length c2, .slice A3 s.shifts.length c3] ∧ (b = false → v = .slice zA Y.length zc)
  ahead : b = false → RowOf W b1 39 2 ZV.cells zA zc Y ∧ Below W0.heap.size W0 W
theorem Ea.toEb {w W W0 : World} {s : SV} {G : EV → EV} {b1 g c1 c2 c3 zc k : Nat} {A1 A2 A3 zA : Option Addr} {Y : List ZV} (h : Ea w W s G b1 g A1 c1 A2 c2 A3 c3 zA zc Y k) (hb : Below W0.heap.size W0 W) : Eb w W s G b1 g A1 c1 A2 c2 A3 c3 zA zc Y k false W0 :=
  ⟨h.src, h.res, h.rules, h.links, h.shifts, h.zin, h.bel, hb.size, ⟨_, h.own, fun _ => rfl⟩, fun _ => ⟨h.zrow, hb⟩⟩
theorem Eb.or {w W W0 : World} {s : SV} {G : EV → EV} {b1 g c1 c2 c3 zc k : Nat} {A1 A2 A3 zA : Option Addr} {Y : List ZV} {b : Bool} {x : Bool} (h : Eb w W s G b1 g A1 c1 A2 c2 A3 c3 zA zc Y k b W0) : Eb w W s G b1 g A1 c1 A2 c2 A3 c3 zA zc Y k (b || x) W0 :=
  ⟨h.src, h.res, h.rules, h.links, h.shifts, h.zin, h.bel, h.le, by obtain ⟨v, h1, h2⟩ := h.own; exact ⟨v, h1, fun q => h2 (Bool.or_eq_false_iff.1 q).1⟩, fun q => h.ahead (Bool.or_eq_false_iff.1 q).1⟩
theorem Eb.below {w W W' W0 : World} {s : SV} {G : EV → EV} {b1 g c1 c2 c3 zc k : Nat} {A1 A2 A3 zA : Option Addr} {Y : List ZV} {b : Bool} (h : Eb w W s G b1 g A1 c1 A2 c2 A3 c3 zA zc Y k b W0) (hb : Below W.heap.size W W') : Eb w W' s G b1 g A1 c1 A2 c2 A3 c3 zA zc Y k b W0 :=
  ⟨h.src.below hb h.src.lt, h.res.below hb h.res.lt, h.rules.below hb, h.links.below hb, h.shifts.below hb, h.zin.below hb, h.bel.trans (hb.mono h.bel.size), Nat.le_trans h.le hb.size, by obtain ⟨v, h1, h2⟩ := h.own; exact ⟨v, h1.below hb h1.lt, h2⟩, fun q => ⟨(h.ahead q).1.below hb, (h.ahead q).2.trans (hb.mono h.le)⟩⟩
theorem Eb.grown {w W W' W0 : World} {s : SV} {G : EV → EV} {b1 g c1 c2 c3 zc k : Nat} {A1 A2 A3 zA : Option Addr} {Y : List ZV} (h : Eb w W s G b1 g A1 c1 A2 c2 A3 c3 zA zc Y k false W0) (hz : RowOf W b1 39 2 ZV.cells zA zc Y) (hgr : W.grownBy W' (Value.slice zA Y.length zc).ownBlock) (hl : w.heap.size + 2 ≤ g ∧ g < b1) : Eb w W' s G b1 g A1 c1 A2 c2 A3 c3 zA zc Y k true W0 :=
  ⟨blk_grown h.src hz hgr (by omega), blk_grown h.res hz hgr (by omega), row_other h.rules hz (by decide) hgr, row_other h.links hz (by decide) hgr, row_other h.shifts hz (by decide) hgr, h.zin.other hz (by decide) hgr, own_grown h.bel hz hgr h.bel.size (by omega), Nat.le_trans h.le hgr.size, by obtain ⟨v, h1, h2⟩ := h.own; exact ⟨v, blk_grown h1 hz hgr hl.2, fun q => by cases q⟩, fun q => by cases q⟩
theorem Eb.set1 {w W W0 : World} {s : SV} {G : EV → EV} {b1 g c1 c2 c3 zc k : Nat} {A1 A2 A3 zA : Option Addr} {Y : List ZV} (h : Eb w W s G b1 g A1 c1 A2 c2 A3 c3 zA zc Y k true W0) {v : Value} (hv : Blk W g 32 #[.slice A1 s.rules.length c1, v, .slice A2 s.links.length c2, .slice A3 s.shifts.length c3]) (u : Value) (hl : w.heap.size + 2 ≤ g ∧ g < b1) : Eb w (W.setCell ⟨g, 1, none⟩ u) s G b1 g A1 c1 A2 c2 A3 c3 zA zc Y k true W0 := by
  have q := GS.set_ hv 1 u
  exact ⟨h.src.far (by show _ ≠ g; omega) u, h.res.far (by show _ ≠ g; omega) u, q.row (by decide) h.rules, q.row (by decide) h.links, q.row (by decide) h.shifts, q.zones h.zin, h.bel.setCell (by show w.heap.size ≤ g; omega) u, by simpa using h.le, ⟨u, hv.set_ 1 u, fun q => by cases q⟩, fun q => by cases q⟩
end Go.Proofs.YtlideagcmhlkeaaDoor
