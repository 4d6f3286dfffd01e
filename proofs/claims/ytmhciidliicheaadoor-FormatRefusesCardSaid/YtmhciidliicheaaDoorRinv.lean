/- A law on regions that draw their order, by what each operation leaves: each operation is walked once, whatever the order. No function of the program. -/
import Derived.Orders
import Derived.Deep.RegionHeld
namespace Go.Proofs.YtmhciidliicheaaDoor
open Go
set_option linter.unusedVariables false

/-- what must stand ahead of operation i -/
def rdeps (ops : Array Oper) (i : Nat) : List Nat := match ops[i]? with
  | some o => (o.after.toList.filter (Region.binds .any)).map (·.on)
  | none => []
def rdst (ops : Array Oper) (i : Nat) : Option Nat := (ops[i]?).bind (·.dst)
def upd (y : Nat → Value) (d : Option Nat) (v : Value) : Nat → Value := match d with
  | some d => fun k => if k = d then v else y k
  | none => y
theorem ready_spec {ops : Array Oper} {listed : Array Bool} {i : Nat} (h : i ∈ Region.ready .any ops listed) : i < ops.size ∧ listed.getD i true = false ∧ ∀ d ∈ rdeps ops i, listed.getD d false = true := by
  unfold Region.ready at h
  rw [List.mem_filter, List.mem_range] at h
  obtain ⟨h1, h2⟩ := h
  rw [Array.getElem?_eq_getElem h1] at h2
  simp only [Option.map_some, Option.getD_some, Bool.and_eq_true, Bool.not_eq_true', Array.all_eq_true_iff_forall_mem, Bool.or_eq_true] at h2
  refine ⟨h1, h2.1, fun d hd => ?_⟩
  unfold rdeps at hd
  rw [Array.getElem?_eq_getElem h1] at hd
  simp only [List.mem_map, List.mem_filter, Array.mem_toList_iff] at hd
  obtain ⟨e, ⟨he, hb⟩, rfl⟩ := hd
  rcases h2.2 e he with q | q
  · rw [hb] at q; cases q
  · exact q
theorem ready_of {ops : Array Oper} {listed : Array Bool} {i : Nat} (h1 : i < ops.size) (h2 : listed.getD i true = false) (h3 : ∀ d ∈ rdeps ops i, listed.getD d false = true) : i ∈ Region.ready .any ops listed := by
  unfold Region.ready
  rw [List.mem_filter, List.mem_range]
  refine ⟨h1, ?_⟩
  rw [Array.getElem?_eq_getElem h1]
  simp only [Option.map_some, Option.getD_some, Bool.and_eq_true, Bool.not_eq_true', Array.all_eq_true_iff_forall_mem, Bool.or_eq_true]
  refine ⟨h2, fun e he => ?_⟩
  by_cases hb : Region.binds .any e = true
  · refine .inr (h3 e.on ?_)
    unfold rdeps
    rw [Array.getElem?_eq_getElem h1]
    simp only [List.mem_map, List.mem_filter, Array.mem_toList_iff]
    exact ⟨e, ⟨he, hb⟩, rfl⟩
  · exact .inl (by simpa using hb)
/-- the operations of which nothing is left open stand ahead of it -/
theorem all_listed {ops : Array Oper} {listed : Array Bool} (hs : listed.size = ops.size) (hlt : ∀ i, i < ops.size → ∀ d ∈ rdeps ops i, d < i) (h : Region.ready .any ops listed = []) : ∀ i, i < ops.size → listed.getD i false = true := by
  intro i
  induction i using Nat.strongRecOn with
  | ind i ih =>
    intro hi
    cases q : listed.getD i false with
    | true => rfl
    | false =>
      have q' : listed.getD i true = false := by
        rw [Array.getD_eq_getD_getElem?, Array.getElem?_eq_getElem (by omega)] at q ⊢
        exact q
      have := ready_of hi q' fun d hd => ih d (hlt i hi d hd) (Nat.lt_trans (hlt i hi d hd) hi)
      rw [h] at this; cases this

section
variable {P : Program} {ops : Array Oper} {Q : Exit → Act → World → Prop}
def unl (listed : Array Bool) : Nat := (listed.toList.filter (fun b => !b)).length
theorem unl_set {listed : Array Bool} {i : Nat} (h : listed.getD i true = false) : unl (listed.setIfInBounds i true) + 1 = unl listed := by
  unfold unl
  rw [Array.toList_setIfInBounds]
  rw [Array.getD_eq_getD_getElem?, ← Array.getElem?_toList] at h
  generalize listed.toList = l at h ⊢
  induction l generalizing i with
  | nil => simp at h
  | cons b l ih =>
    cases i with
    | zero =>
      simp at h
      subst h
      simp
    | succ i =>
      rw [List.getElem?_cons_succ] at h
      rw [List.set_cons_succ]
      cases b <;> simp [ih h]
theorem unl_zero {listed : Array Bool} (h : unl listed = 0) (i : Nat) : listed.getD i true = true := by
  unfold unl at h
  have := List.length_eq_zero_iff.1 h
  rw [List.filter_eq_nil_iff] at this
  rw [Array.getD_eq_getD_getElem?]
  cases q : listed[i]? with
  | none => rfl
  | some b =>
    have hb : b ∈ listed.toList := by rw [← Array.getElem?_toList] at q; exact List.mem_of_getElem? q
    have := this b hb
    simpa using this
/-- whatever the order, by an invariant -/
theorem wpAny_inv (I : Array Bool → Act → World → Prop) (hstep : ∀ listed a w i, I listed a w → i ∈ Region.ready .any ops listed → wpOp P ops Q i (fun a' w' => I (listed.setIfInBounds i true) a' w') a w)
    (hdone : ∀ listed a w, I listed a w → Region.ready .any ops listed = [] → Q .normal a w) : ∀ (fuel : Nat) (listed : Array Bool) (a : Act) (w : World), unl listed ≤ fuel → I listed a w → wpAny P .any ops Q fuel listed a w
  | 0, listed, a, w, hu, h => by
    have hr : Region.ready .any ops listed = [] := by
      apply List.eq_nil_iff_forall_not_mem.2
      intro i hi
      have h1 := (ready_spec hi).2.1
      rw [unl_zero (by omega) i] at h1; cases h1
    exact ⟨hr, hdone _ _ _ h hr⟩
  | fuel + 1, listed, a, w, hu, h => ⟨fun hr => hdone _ _ _ h hr, fun i hi => wpOp_mono (fun a' w' h' => wpAny_inv I hstep hdone fuel _ a' w' (by have := unl_set (ready_spec hi).2.1; omega) h') (hstep _ _ _ _ h hi)⟩

/-- what operation j has left: a value that is known ahead, or what X says -/
def Left17 (ops : Array Oper) (val : Nat → Option Value) (X : Nat → (Nat → Value) → World → Prop) (j : Nat) (y : Nat → Value) (w : World) : Prop :=
  match val j with
  | some v => ∀ d, rdst ops j = some d → y d = v
  | none => X j y w
theorem Left17.known {val : Nat → Option Value} {X : Nat → (Nat → Value) → World → Prop} {j : Nat} {y : Nat → Value} {w : World} (h : Left17 ops val X j y w) {v : Value} (hv : val j = some v) {d : Nat} (hd : rdst ops j = some d) : y d = v := by
  unfold Left17 at h; rw [hv] at h; exact h d hd
theorem Left17.other {val : Nat → Option Value} {X : Nat → (Nat → Value) → World → Prop} {j : Nat} {y : Nat → Value} {w : World} (h : Left17 ops val X j y w) (hv : val j = none) : X j y w := by
  unfold Left17 at h; rw [hv] at h; exact h
/-- THE LAW: each operation by itself, behind those that must stand ahead of it. fr: the frame by the slots that the region makes; val: the values known ahead; X: what the others leave, by the slots Kx; G: what a step may do to the world. -/
theorem wp_region_inv {id : Nat} {a : Act} {w : World} (fr : (Nat → Value) → Act) (y0 : Nat → Value) (val : Nat → Option Value) (X : Nat → (Nat → Value) → World → Prop) (Kx : Nat → List Nat) (G : World → World → Prop) (S : World → Prop)
    (hm : P.follows .mixedOrders = true) (ha : a = fr y0) (hS : S w.drew)
    (hlt : ∀ i, i < ops.size → ∀ d ∈ rdeps ops i, d < i)
    (hput : ∀ i d, i < ops.size → rdst ops i = some d → ∀ y v, (fr y).put (some d) v = fr (upd y (some d) v))
    (hloc : ∀ j, j < ops.size → val j = none → ∀ y y' w, (∀ k ∈ Kx j, y k = y' k) → X j y w → X j y' w)
    (hmono : ∀ j, j < ops.size → val j = none → (∃ i, i < ops.size ∧ i ≠ j ∧ i ∉ rdeps ops j) → ∀ y w w', G w w' → X j y w → X j y w')
    (hap : ∀ i j, i < ops.size → j < ops.size → i ≠ j → i ∉ rdeps ops j → ∀ d, rdst ops i = some d → (rdst ops j ≠ some d) ∧ (val j = none → d ∉ Kx j))
    (hstep : ∀ i, i < ops.size → ∀ o, ops[i]? = some o → ∀ y w, S w → (∀ d ∈ rdeps ops i, Left17 ops val X d y w) →
      ∀ K' : Act → World → Prop, Shut (∀ v a' w', a' = (fr y).put o.dst v → G w w' → S w' → (val i = some v ∨ (val i = none ∧ X i (upd y o.dst v) w')) → K' a' w') →
        if Region.wanted o (yielded ops (fr y).tmps) = true then Oper.wp P o (fr y) w K' Q else K' ((fr y).put o.dst undef) w)
    (hdone : ∀ y w, S w → (∀ j, j < ops.size → Left17 ops val X j y w) → Q .normal (fr y) w) : (Code.region id ops true).wp P Q a w := by
  refine wp_region_any hm ?_
  refine wpAny_inv (fun listed a w => listed.size = ops.size ∧ ∃ y, a = fr y ∧ S w ∧ (∀ j, listed.getD j false = true → j < ops.size ∧ Left17 ops val X j y w) ∧ ∀ j, listed.getD j false = true → ∀ d ∈ rdeps ops j, listed.getD d false = true) ?_ ?_ _ _ _ _ ?_ ?_
  · rintro listed a w i ⟨hsz, y, rfl, hSw, hl, hcl⟩ hi
    obtain ⟨h1, h2, h3⟩ := ready_spec hi
    have ho : ops[i]? = some (ops[i]'h1) := Array.getElem?_eq_getElem h1
    refine wpOp_step ho fun K' hK => ?_
    refine hstep i h1 _ ho y w hSw (fun d hd => (hl d (h3 d hd)).2) K' ?_
    intro v a' w' ha' hG hS' hnew
    refine hK _ _ ⟨by rw [Array.size_setIfInBounds]; exact hsz, upd y (ops[i]'h1).dst v, ?_, hS', ?_, ?_⟩
    · rw [ha']
      cases hd : (ops[i]'h1).dst with
      | none => rfl
      | some d => exact hput i d h1 (by unfold rdst; rw [ho]; exact hd) y v
    · intro j hj
      by_cases hij : j = i
      · subst hij
        refine ⟨h1, ?_⟩
        unfold Left17
        rcases hnew with hv | ⟨hv, hx⟩
        · rw [hv]
          intro d hd
          have hd' : (ops[j]'h1).dst = some d := by unfold rdst at hd; rw [ho] at hd; exact hd
          rw [hd']
          show (if d = d then v else y d) = v
          rw [if_pos rfl]
        · rw [hv]; exact hx
      · have hj' : listed.getD j false = true := by
          rw [Array.getD_eq_getD_getElem?, Array.getElem?_setIfInBounds, if_neg (fun q => hij q.symm)] at hj
          rw [Array.getD_eq_getD_getElem?]; exact hj
        obtain ⟨hjn, hf⟩ := hl j hj'
        have hni : i ∉ rdeps ops j := fun q => by
          have := hcl j hj' i q
          rw [Array.getD_eq_getD_getElem?] at this h2
          cases e : listed[i]? with
          | none => rw [e] at this; cases this
          | some b => rw [e] at this h2; simp at this h2; rw [this] at h2; cases h2
        refine ⟨hjn, ?_⟩
        cases hd : (ops[i]'h1).dst with
        | none =>
          unfold Left17 at hf ⊢
          cases hv : val j with
          | some u => rw [hv] at hf; exact hf
          | none => rw [hv] at hf; exact hmono j hjn hv ⟨i, h1, fun q => hij q.symm, hni⟩ y w w' hG hf
        | some d =>
          obtain ⟨a1, a2⟩ := hap i j h1 hjn (fun q => hij q.symm) hni d (by unfold rdst; rw [ho]; exact hd)
          unfold Left17 at hf ⊢
          cases hv : val j with
          | some u =>
            rw [hv] at hf
            intro d' hd'
            have hne : d' ≠ d := fun q => a1 (by rw [hd', q])
            show (if d' = d then v else y d') = u
            rw [if_neg hne]; exact hf d' hd'
          | none =>
            rw [hv] at hf
            refine hloc j hjn hv y _ w' (fun k hk => ?_) (hmono j hjn hv ⟨i, h1, fun q => hij q.symm, hni⟩ y w w' hG hf)
            have hne : k ≠ d := fun q => a2 hv (by rw [← q]; exact hk)
            show y k = if k = d then v else y k
            rw [if_neg hne]
    · intro j hj d hd
      have key : ∀ k, listed.getD k false = true → (listed.setIfInBounds i true).getD k false = true := fun k hk => by
        rw [Array.getD_eq_getD_getElem?] at hk ⊢
        rw [Array.getElem?_setIfInBounds]
        split
        · split
          · rfl
          · rename_i q1 q2; subst q1; rw [Array.getElem?_eq_none (by omega)] at hk; cases hk
        · exact hk
      by_cases hij : j = i
      · subst hij; exact key d (h3 d hd)
      · have hj' : listed.getD j false = true := by
          rw [Array.getD_eq_getD_getElem?, Array.getElem?_setIfInBounds, if_neg (fun q => hij q.symm)] at hj
          rw [Array.getD_eq_getD_getElem?]; exact hj
        exact key d (hcl j hj' d hd)
  · rintro listed a w ⟨hsz, y, rfl, hSw, hl, _⟩ hr
    exact hdone y w hSw fun j hj => (hl j (all_listed hsz hlt hr j hj)).2
  · unfold unl
    rw [Array.toList_replicate]
    simp
  · refine ⟨Array.size_replicate, y0, ha, hS, fun j hj => ?_, fun j hj => ?_⟩
    all_goals
      rw [Array.getD_eq_getD_getElem?, Array.getElem?_replicate] at hj
      split at hj <;> cases hj
/-- slots and what must stand ahead, read off the operations -/
def shapeOf (ops : List Oper) : List (Option Nat × List Nat) := ops.map fun o => (o.dst, (o.after.toList.filter (Region.binds .any)).map (·.on))
def sdst (sh : List (Option Nat × List Nat)) (i : Nat) : Option Nat := (sh.getD i (none, [])).1
def sdeps (sh : List (Option Nat × List Nat)) (i : Nat) : List Nat := (sh.getD i (none, [])).2
theorem rdst_shape {l : List Oper} {sh : List (Option Nat × List Nat)} (h : shapeOf l = sh) (i : Nat) : rdst l.toArray i = sdst sh i := by
  subst h
  unfold rdst sdst shapeOf
  rw [List.getD_eq_getElem?_getD, List.getElem?_map, List.getElem?_toArray]
  cases l[i]? <;> rfl
theorem rdeps_shape {l : List Oper} {sh : List (Option Nat × List Nat)} (h : shapeOf l = sh) (i : Nat) : rdeps l.toArray i = sdeps sh i := by
  subst h
  unfold rdeps sdeps shapeOf
  rw [List.getD_eq_getElem?_getD, List.getElem?_map, List.getElem?_toArray]
  cases l[i]? <;> rfl
/-- each stands behind those ahead of it; no two write one slot, nor one that another's facts speak of -/
def shapeOk (sh : List (Option Nat × List Nat)) (sp : Nat → Bool) (Kx : Nat → List Nat) : Bool :=
  (List.range sh.length).all fun i => (sdeps sh i).all (fun d => decide (d < i)) && (List.range sh.length).all fun j => (i == j) || (sdeps sh j).contains i || match sdst sh i with
    | none => true
    | some d => (sdst sh j != some d) && (!sp j || !(Kx j).contains d)
/-- what operation j has left, by the shape -/
def LeftS (sh : List (Option Nat × List Nat)) (val : Nat → Option Value) (X : Nat → (Nat → Value) → World → Prop) (j : Nat) (y : Nat → Value) (w : World) : Prop :=
  match val j with
  | some v => ∀ d, sdst sh j = some d → y d = v
  | none => X j y w
theorem LeftS.of {l : List Oper} {sh : List (Option Nat × List Nat)} (hsh : shapeOf l = sh) {val : Nat → Option Value} {X : Nat → (Nat → Value) → World → Prop} {j : Nat} {y : Nat → Value} {w : World} (h : Left17 l.toArray val X j y w) : LeftS sh val X j y w := by
  unfold Left17 at h
  unfold LeftS
  cases hv : val j with
  | none => rw [hv] at h; exact h
  | some v => rw [hv] at h; exact fun d hd => h d (by rw [rdst_shape hsh]; exact hd)
/-- all others stand ahead of operation j -/
def lastB (sh : List (Option Nat × List Nat)) (j : Nat) : Bool := (List.range sh.length).all fun i => (i == j) || (sdeps sh j).contains i
def valOf (sp : Nat → Bool) (vals : List Value) (j : Nat) : Option Value := if sp j = true then none else some (vals.getD j undef)
/-- a step of the law: operation i alone -/
def StepOk (P : Program) (ops : Array Oper) (Q : Exit → Act → World → Prop) (fr : (Nat → Value) → Act) (sh : List (Option Nat × List Nat)) (sp : Nat → Bool) (vals : List Value) (X : Nat → (Nat → Value) → World → Prop) (G : World → World → Prop) (S : World → Prop) (i : Nat) (o : Oper) : Prop :=
  ∀ y w, S w → (∀ d, (sdeps sh i).contains d = true → LeftS sh (valOf sp vals) X d y w) →
    ∀ K' : Act → World → Prop, Shut (∀ v a' w', a' = (fr y).put o.dst v → G w w' → S w' → (valOf sp vals i = some v ∨ (valOf sp vals i = none ∧ X i (upd y o.dst v) w')) → K' a' w') →
      if Region.wanted o (yielded ops (fr y).tmps) = true then Oper.wp P o (fr y) w K' Q else K' ((fr y).put o.dst undef) w
def StepsOk (P : Program) (ops : Array Oper) (Q : Exit → Act → World → Prop) (fr : (Nat → Value) → Act) (sh : List (Option Nat × List Nat)) (sp : Nat → Bool) (vals : List Value) (X : Nat → (Nat → Value) → World → Prop) (G : World → World → Prop) (S : World → Prop) (i : Nat) (l : List Oper) : Prop :=
  ∀ k o, l[k]? = some o → StepOk P ops Q fr sh sp vals X G S (i + k) o
section
variable {fr : (Nat → Value) → Act} {sh : List (Option Nat × List Nat)} {sp : Nat → Bool} {vals : List Value} {X : Nat → (Nat → Value) → World → Prop} {G : World → World → Prop} {S : World → Prop}
theorem StepsOk.nil {i : Nat} : StepsOk P ops Q fr sh sp vals X G S i [] := fun k o h => by simp at h
theorem StepsOk.cons {i : Nat} {o : Oper} {l : List Oper} (h : StepOk P ops Q fr sh sp vals X G S i o) (hl : StepsOk P ops Q fr sh sp vals X G S (i + 1) l) : StepsOk P ops Q fr sh sp vals X G S i (o :: l) := fun k o' ho => by
  cases k with
  | zero => rw [List.getElem?_cons_zero] at ho; injection ho with ho; subst ho; exact h
  | succ k =>
    rw [List.getElem?_cons_succ] at ho
    have := hl k o' ho
    rwa [show i + 1 + k = i + (k + 1) by omega] at this
/-- a step whose value is known ahead -/
theorem StepOk.known {i : Nat} {o : Oper} (hi : sp i = false) (h : ∀ y w, S w → (∀ d, (sdeps sh i).contains d = true → LeftS sh (valOf sp vals) X d y w) →
    ∀ K' : Act → World → Prop, Shut (∀ a' w', a' = (fr y).put o.dst (vals.getD i undef) → G w w' → S w' → K' a' w') →
      if Region.wanted o (yielded ops (fr y).tmps) = true then Oper.wp P o (fr y) w K' Q else K' ((fr y).put o.dst undef) w) : StepOk P ops Q fr sh sp vals X G S i o :=
  fun y w hS hd K' hK => h y w hS hd K' fun a' w' ha hG hS' => hK _ a' w' ha hG hS' (.inl (by unfold valOf; rw [if_neg (by rw [hi]; decide)]))
/-- a step whose value is not known ahead -/
theorem StepOk.other {i : Nat} {o : Oper} (hi : sp i = true) (h : ∀ y w, S w → (∀ d, (sdeps sh i).contains d = true → LeftS sh (valOf sp vals) X d y w) →
    ∀ K' : Act → World → Prop, Shut (∀ v a' w', a' = (fr y).put o.dst v → G w w' → S w' → X i (upd y o.dst v) w' → K' a' w') →
      if Region.wanted o (yielded ops (fr y).tmps) = true then Oper.wp P o (fr y) w K' Q else K' ((fr y).put o.dst undef) w) : StepOk P ops Q fr sh sp vals X G S i o :=
  fun y w hS hd K' hK => h y w hS hd K' fun v a' w' ha hG hS' hx => hK v a' w' ha hG hS' (.inr ⟨by unfold valOf; rw [if_pos hi], hx⟩)
end
/-- THE LAW, by the shape -/
theorem wp_region_shape {id : Nat} {l : List Oper} {Q : Exit → Act → World → Prop} {a : Act} {w : World} (sh : List (Option Nat × List Nat)) (fr : (Nat → Value) → Act) (y0 : Nat → Value) (sp : Nat → Bool) (vals : List Value) (X : Nat → (Nat → Value) → World → Prop) (Kx : Nat → List Nat) (G : World → World → Prop) (S : World → Prop)
    (hm : P.follows .mixedOrders = true) (hsh : shapeOf l = sh) (hok : shapeOk sh sp Kx = true) (ha : a = fr y0) (hS : S w.drew)
    (hput : ∀ d ∈ sh.filterMap (·.1), ∀ y v, (fr y).put (some d) v = fr (upd y (some d) v))
    (hloc : ∀ j, sp j = true → ∀ y y' w, (∀ k ∈ Kx j, y k = y' k) → X j y w → X j y' w)
    (hmono : ∀ j, sp j = true → lastB sh j = false → ∀ y w w', G w w' → X j y w → X j y w')
    (hstep : StepsOk P l.toArray Q fr sh sp vals X G S 0 l)
    (hdone : ∀ y w, S w → (∀ j, j < sh.length → LeftS sh (valOf sp vals) X j y w) → Q .normal (fr y) w) : (Code.region id l.toArray true).wp P Q a w := by
  have hlen : l.length = sh.length := by rw [← hsh]; unfold shapeOf; rw [List.length_map]
  have hsz : l.toArray.size = sh.length := by rw [List.size_toArray, hlen]
  have hsp : ∀ j, valOf sp vals j = none → sp j = true := fun j h => by
    unfold valOf at h; split at h
    · assumption
    · cases h
  have hok' := hok
  unfold shapeOk at hok'
  rw [List.all_eq_true] at hok'
  refine wp_region_inv fr y0 (valOf sp vals) X Kx G S hm ha hS ?_ ?_ ?_ ?_ ?_ ?_ ?_
  · intro i hi d hd
    rw [hsz] at hi
    rw [rdeps_shape hsh] at hd
    have := hok' i (List.mem_range.2 hi)
    rw [Bool.and_eq_true, List.all_eq_true] at this
    exact of_decide_eq_true (this.1 d hd)
  · intro i d hi hd y v
    rw [rdst_shape hsh] at hd
    refine hput d (List.mem_filterMap.2 ⟨sh.getD i (none, []), ?_, hd⟩) y v
    rw [hsz] at hi
    rw [List.getD_eq_getElem?_getD, List.getElem?_eq_getElem hi]
    exact List.getElem_mem _
  · intro j _ hv; exact hloc j (hsp j hv)
  · intro j _ hv ⟨i, hi, hij, hni⟩
    refine hmono j (hsp j hv) ?_
    unfold lastB
    rw [List.all_eq_false]
    refine ⟨i, List.mem_range.2 (by rw [← hsz]; exact hi), ?_⟩
    rw [rdeps_shape hsh] at hni
    simp [hij, hni]
  · intro i j hi hj hij hni d hd
    rw [hsz] at hi hj
    rw [rdeps_shape hsh] at hni
    rw [rdst_shape hsh] at hd ⊢
    have := hok' i (List.mem_range.2 hi)
    rw [Bool.and_eq_true, List.all_eq_true, List.all_eq_true] at this
    have q := this.2 j (List.mem_range.2 hj)
    rw [hd] at q
    simp only [Bool.or_eq_true, beq_iff_eq, Bool.and_eq_true, bne_iff_ne, Bool.not_eq_true', List.contains_iff_mem] at q
    rcases q with (q | q) | ⟨q1, q2⟩
    · exact absurd q hij
    · exact absurd q hni
    · refine ⟨q1, fun hv hk => ?_⟩
      rcases q2 with q2 | q2
      · rw [hsp j hv] at q2; cases q2
      · rw [List.contains_iff_mem.2 hk] at q2; cases q2
  · intro i hi o ho y w hSw hd K' hK
    have hs := hstep i o (by rw [List.getElem?_toArray] at ho; exact ho)
    rw [Nat.zero_add] at hs
    exact hs y w hSw (fun d hd' => LeftS.of hsh (hd d (by rw [rdeps_shape hsh]; exact List.contains_iff_mem.1 hd'))) K' hK
  · intro y w hSw h
    exact hdone y w hSw fun j hj => LeftS.of hsh (h j (by rw [hsz]; exact hj))
/-- a fact that an operation has left -/
theorem LeftS.val {sh : List (Option Nat × List Nat)} {sp : Nat → Bool} {vals : List Value} {X : Nat → (Nat → Value) → World → Prop} {j : Nat} {y : Nat → Value} {w : World} (h : LeftS sh (valOf sp vals) X j y w) {d : Nat} (hj : sp j = false) (hd : sdst sh j = some d) : y d = vals.getD j undef := by
  unfold LeftS valOf at h
  rw [if_neg (by rw [hj]; decide)] at h
  exact h d hd
theorem LeftS.ex {sh : List (Option Nat × List Nat)} {sp : Nat → Bool} {vals : List Value} {X : Nat → (Nat → Value) → World → Prop} {j : Nat} {y : Nat → Value} {w : World} (h : LeftS sh (valOf sp vals) X j y w) (hj : sp j = true) : X j y w := by
  unfold LeftS valOf at h
  rw [if_pos hj] at h
  exact h
end
end Go.Proofs.YtmhciidliicheaaDoor
