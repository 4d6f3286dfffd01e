/- The plain law of VariantParts: what is not allowed in a source made of parts (chapter 24). -/
import Derived.Test.YtmhciidliicheaaDoorWork24
namespace Go.Proofs.YtmhciidliicheaaDoor
set_option linter.unusedVariables false

namespace P24
theorem first_app {α : Type} {p : α → Bool} {m : List α} : ∀ {l : List α}, first p l < 0 → first p (l ++ m) = if first p m < 0 then -1 else (l.length : Int) + first p m
  | [], _ => by
    have h := first_ge p m
    rw [List.nil_append]
    split
    · omega
    · simp
  | a :: l, h => by
    have hn := first_no h
    have ha : p a = false := hn a (List.mem_cons_self ..)
    have hl : first p l < 0 := by rw [first_none fun b hb => hn b (List.mem_cons_of_mem _ hb)]; decide
    have hg := first_ge p m
    rw [List.cons_append, first, if_neg (by rw [ha]; decide), first_app hl]
    by_cases q : first p m < 0
    · rw [if_pos q, if_pos (by omega), if_pos q]
    · rw [if_neg q, if_neg (by omega), if_neg q, List.length_cons]; omega
theorem first_rep {α : Type} {p : α → Bool} {a : α} (h : p a = false) (n : Nat) : first p (List.replicate n a) < 0 := by
  rw [first_none fun b hb => by rw [List.eq_of_mem_replicate hb]; exact h]; decide
theorem zb_app {f : Int} {z : ZV} : ∀ {L : List ZV} (i : Int), (∀ y ∈ L, first (badV f) y.eras < 0) → zb f (L ++ [z]) i = if 0 ≤ first (badV f) z.eras then some (i + L.length, first (badV f) z.eras) else none
  | [], i, _ => by rw [List.nil_append, zb, zb]; simp
  | y :: L, i, h => by
    rw [List.cons_append, zb, if_neg (by have := h y (List.mem_cons_self ..); omega), zb_app (i + 1) fun x hx => h x (List.mem_cons_of_mem _ hx), List.length_cons]
    have : i + 1 + (L.length : Int) = i + ((L.length + 1 : Nat) : Int) := by omega
    rw [this]
def rp : RV := ⟨⟨#[82]⟩, 0, 0, 0, 0, 0, 0, 0, 0, 3600, ⟨#[]⟩⟩
def rn : RV := ⟨⟨#[82]⟩, 0, 0, 0, 0, 0, 0, 0, 0, -3600, ⟨#[]⟩⟩
def eAB : EV := mkE ⟨#[65, 47, 66]⟩
def eNum : EV := mkE ⟨#[43, 48, 53, 51, 48]⟩
def eMade : EV := mkE ⟨#[37, 122]⟩
def lmtE : List EV := [mkE ⟨#[76, 77, 84]⟩, mkE ⟨#[69, 37, 115, 84]⟩]
def opt {α : Type} (b : Bool) (a : α) : List α := if b = true then [a] else []
def partR (neg : Bool) (n : Nat) : List RV := List.replicate n rp ++ opt neg rn
def partE (num made : Bool) (n : Nat) : List EV := List.replicate n eAB ++ opt num eNum ++ opt made eMade
/-- the source of some parts -/
structure PartOf (s : SV) (neg num made sh : Bool) (n : Nat) : Prop where
  rules : s.rules = partR neg n
  zones : ∃ L z, s.zones = L ++ [z] ∧ L.length = n ∧ (∀ y ∈ L, y.eras = lmtE) ∧ z.eras = partE num made n
  links : s.links = []
  shifts : s.shifts = opt sh ⟨#[82]⟩
theorem kAB : P21.kind [65, 47, 66] = 0 := by decide +kernel
theorem kNum : P21.kind [43, 48, 53, 51, 48] = 5 := by decide +kernel
theorem kLMT : P21.kind [76, 77, 84] = 1 := by decide +kernel
theorem kEST : P21.kind [69, 37, 115, 84] = 3 := by decide +kernel
theorem badV_k {f k : Int} {F : ByteArray} (h : P21.kind (P4.bl F) = k) : badV f (mkE F) = ((decide (k = 4) && !made f) || (decide (k = 5) && !num f)) := by rw [badV_mk, h]
theorem bAB (f : Int) : badV f eAB = false := by unfold eAB; rw [badV_k (k := 0) kAB]; simp
theorem bNum (f : Int) : badV f eNum = !num f := by unfold eNum; rw [badV_k (k := 5) kNum]; simp
theorem bMade (f : Int) : badV f eMade = !made f := by unfold eMade; rw [badV_k (k := 4) P21.kind_z]; simp
theorem bLmt (f : Int) : first (badV f) lmtE < 0 := by
  unfold lmtE
  rw [first, first, first, badV_k (k := 1) kLMT, badV_k (k := 3) kEST]; simp
theorem partE_first (f : Int) (a b : Bool) (n : Nat) : first (badV f) (partE a b n) = if a = true ∧ num f = false then (n : Int) else if b = true ∧ made f = false then (if a = true then (n : Int) + 1 else n) else -1 := by
  unfold partE
  rw [List.append_assoc, first_app (first_rep (bAB f) n), List.length_replicate]
  cases a <;> cases b <;> cases hn : num f <;> cases hm : made f <;> simp [opt, first, bNum, bMade, hn, hm]
theorem partR_first (f : Int) (a : Bool) (n : Nat) : first (negR f) (partR a n) = if a = true ∧ neg f = false then (n : Int) else -1 := by
  unfold partR
  rw [first_app (first_rep (show negR f rp = false by unfold negR rp; simp) n), List.length_replicate]
  cases a <;> cases hn : neg f <;> simp [opt, first, negR, rn, hn]
theorem part_check {s : SV} {a b c d : Bool} {n : Nat} (h : PartOf s a b c d n) (f : Int) (hf : isForm f = true) :
    check s f = if a = true ∧ neg f = false then ((1, (n : Int), 0), 17) else if b = true ∧ num f = false then ((2, (n : Int), (n : Int)), 17)
      else if c = true ∧ made f = false then ((2, (n : Int), if b = true then (n : Int) + 1 else n), 17) else if d = true ∧ shift f = false then ((4, 0, 0), 17) else ((0, 0, 0), 0) := by
  obtain ⟨hr, ⟨L, z, hz, hL, hLl, hzl⟩, _, hs⟩ := h
  have q1 := partR_first f a n
  have q2 := partE_first f b c n
  have q3 : zb f s.zones 0 = if 0 ≤ first (badV f) (partE b c n) then some ((0 : Int) + n, first (badV f) (partE b c n)) else none := by
    rw [hz, zb_app 0 (fun y hy => by rw [hLl y hy]; exact bLmt f), hzl, hL]
  have q4 : (0 < s.shifts.length) ↔ d = true := by rw [hs]; cases d <;> simp [opt]
  by_cases h1 : a = true ∧ neg f = false
  · rw [if_pos h1] at q1 ⊢
    rw [check_rule hf (by rw [hr, q1]; omega), hr, q1]
  · rw [if_neg h1] at q1 ⊢
    have hneg : first (negR f) s.rules < 0 := by rw [hr, q1]; decide
    by_cases h2 : b = true ∧ num f = false
    · rw [if_pos h2] at q2 ⊢
      rw [q2, if_pos (by omega)] at q3
      rw [check_zone hf hneg q3, Int.zero_add]
    · rw [if_neg h2] at q2 ⊢
      by_cases h3 : c = true ∧ made f = false
      · rw [if_pos h3] at q2 ⊢
        rw [q2, if_pos (by split <;> omega)] at q3
        rw [check_zone hf hneg q3, Int.zero_add]
      · rw [if_neg h3] at q2 ⊢
        rw [q2, if_neg (by decide)] at q3
        rw [check_none hf hneg q3]
        simp only [q4]
theorem part_1 {s : SV} {a b c d : Bool} {n : Nat} (h : PartOf s a b c d n) : check s 1 = if b = true then ((2, (n : Int), (n : Int)), 17) else if d = true then ((4, 0, 0), 17) else ((0, 0, 0), 0) := by
  rw [part_check h 1 rfl]
  simp [neg, num, made, shift]
theorem part_2 {s : SV} {a b c d : Bool} {n : Nat} (h : PartOf s a b c d n) : check s 2 = if c = true then ((2, (n : Int), if b = true then (n : Int) + 1 else n), 17) else if d = true then ((4, 0, 0), 17) else ((0, 0, 0), 0) := by
  rw [part_check h 2 rfl]
  simp [neg, num, made, shift]
theorem part_3 {s : SV} {a b c d : Bool} {n : Nat} (h : PartOf s a b c d n) : check s 3 = if a = true then ((1, (n : Int), 0), 17) else if c = true then ((2, (n : Int), if b = true then (n : Int) + 1 else n), 17) else ((0, 0, 0), 0) := by
  rw [part_check h 3 rfl]
  simp [neg, num, made, shift]
theorem part_small {s : SV} {a b c d : Bool} {n : Nat} (h : PartOf s a b c d n) (hn : n ≤ 1000) : SmallS s := by
  obtain ⟨hr, ⟨L, z, hz, hL, hLl, hzl⟩, hk, hs⟩ := h
  have he : ∀ y ∈ s.zones, y.eras.length ≤ 1000000 ∧ ∀ e ∈ y.eras, e.fmt.size ≤ 1000000 := by
    intro y hy
    rw [hz, List.mem_append, List.mem_singleton] at hy
    rcases hy with hy | rfl
    · rw [hLl y hy]
      refine ⟨by decide, fun e he => ?_⟩
      unfold lmtE at he
      simp only [List.mem_cons, List.not_mem_nil, or_false] at he
      rcases he with rfl | rfl <;> decide
    · rw [hzl]
      refine ⟨?_, fun e he => ?_⟩
      · unfold partE opt
        simp only [List.length_append, List.length_replicate]
        split <;> split <;> simp <;> omega
      · unfold partE at he
        rw [List.mem_append, List.mem_append] at he
        rcases he with (he | he) | he
        · rw [List.eq_of_mem_replicate he]; decide
        · unfold opt at he
          split at he
          · rw [List.mem_singleton] at he; rw [he]; decide
          · cases he
        · unfold opt at he
          split at he
          · rw [List.mem_singleton] at he; rw [he]; decide
          · cases he
  refine ⟨?_, ?_, ?_, fun y hy => (he y hy).1, fun y hy e h => (he y hy).2 e h⟩
  · rw [hr]; unfold partR opt
    simp only [List.length_append, List.length_replicate]
    split <;> simp <;> omega
  · rw [hz]; simp; omega
  · rw [hs]; unfold opt; split <;> simp
end P24
end Go.Proofs.YtmhciidliicheaaDoor
