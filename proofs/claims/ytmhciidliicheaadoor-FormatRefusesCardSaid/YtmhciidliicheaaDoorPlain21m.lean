/- The plain law of FORMATs of sets that are made by numbers (chapter 21): %z, what stands for it, letters; no program in sight. -/
import Derived.Test.YtmhciidliicheaaDoorPlain21k
import Derived.Test.YtmhciidliicheaaDoorPlain17
import Derived.Test.YtmhciidliicheaaDoorFmt21h
namespace Go.Proofs.YtmhciidliicheaaDoor
set_option linter.unusedVariables false

namespace P21
theorem ofrom_y {y : Int} (hy : y ≠ 0) : ∀ l : List Int, (∀ x ∈ l, x = 0 ∨ x = y) → P20.otherFrom y l = (y, true)
  | [], _ => by rw [P20.otherFrom, decide_eq_true hy]
  | a :: l, h => by
    have ih := ofrom_y hy l fun x hx => h x (List.mem_cons_of_mem _ hx)
    rw [P20.otherFrom]
    rcases h a (List.mem_cons_self ..) with rfl | rfl
    · rw [if_pos rfl, ih]
    · rw [if_neg hy, if_neg (by simp), ih]
theorem other_good {y : Int} (hy : y ≠ 0) : ∀ l : List Int, (∀ x ∈ l, x = 0 ∨ x = y) → y ∈ l → P20.other l = (y, true)
  | [], _, hm => by cases hm
  | a :: l, h, hm => by
    have hl : ∀ x ∈ l, x = 0 ∨ x = y := fun x hx => h x (List.mem_cons_of_mem _ hx)
    unfold P20.other
    rw [P20.otherFrom]
    by_cases h0 : a = 0
    · rw [if_pos h0]
      refine other_good hy l hl ?_
      rcases List.mem_cons.1 hm with h1 | h1
      · exact absurd (h1.trans h0) hy
      · exact h1
    · rw [if_neg h0, if_neg (by simp)]
      rcases h a (List.mem_cons_self ..) with h1 | rfl
      · exact absurd h1 h0
      · exact ofrom_y hy l hl
/-- what stands for %z -/
def xt (off y : Int) : List UInt8 := P20.text off ++ 47 :: P20.text (off + y)
/-- offset and save within a day, and with each other -/
structure Fits (off y : Int) : Prop where
  o0 : -86399 ≤ off
  o1 : off ≤ 86399
  s0 : -86399 ≤ off + y
  s1 : off + y ≤ 86399
section
variable {off y : Int} (h : Fits off y)
include h
theorem Fits.n1 : num (P20.text off) = true := num_of_text h.o0 h.o1
theorem Fits.n2 : num (P20.text (off + y)) = true := num_of_text h.s0 h.s1
theorem xt_slash : slash (xt off y) = (P20.text off, P20.text (off + y), true) := slash_at fun c hc q => by
  rw [q] at hc; have := num_mem h.n1 _ hc; revert this; decide
theorem xt_kind : kind (xt off y) = 5 := kind5s (xt_slash h) h.n1 h.n2
theorem xt_two : two (xt off y) = true := by unfold two; rw [xt_slash h, xt_kind h]; rfl
theorem xt_parts : parts (xt off y) = (P20.text off, P20.text (off + y), true) := by unfold parts; rw [if_pos (xt_two h), xt_slash h]
theorem xt_exp {l : List Int} (s : Int) (hl : P20.other l = (y, true)) : P20.expansion 2 off s l = (xt off y, 0) := by
  unfold P20.expansion
  rw [if_neg (by decide), if_neg (by decide), if_pos rfl, hl, if_pos rfl]
  unfold P20.both
  rw [if_neg (by rintro (q | q); exact P20.text_ne h.o0 h.o1 q; exact P20.text_ne h.s0 h.s1 q)]
  rfl
theorem xt_abbr (s : Int) (lt : List UInt8) : abbrv (xt off y) off s lt = (if s = 0 then P20.text off else P20.text (off + y), 0) := by
  unfold abbrv
  rw [if_pos (xt_two h), xt_slash h]
  by_cases h0 : s = 0 <;> simp [h0]
theorem xt_abbr' (o s : Int) (lt : List UInt8) : abbrv (xt off y) o s lt = (if s = 0 then P20.text off else P20.text (off + y), 0) := by
  unfold abbrv
  rw [if_pos (xt_two h), xt_slash h]
  by_cases h0 : s = 0 <;> simp [h0]
theorem z_abbr {s : Int} (hs : s = 0 ∨ s = y) (lt : List UInt8) : abbrv [37, 122] off s lt = (if s = 0 then P20.text off else P20.text (off + y), 0) := by
  have ht : two [37, 122] = false := by decide +kernel
  unfold abbrv
  rw [if_neg (by rw [ht]; decide), if_neg (by rw [kind_z]; decide), if_pos kind_z]
  by_cases h0 : s = 0
  · subst h0
    rw [if_pos rfl, Int.add_zero, out, decide_eq_true (P20.text_ne h.o0 h.o1)]; rfl
  · rw [hs.resolve_left h0, if_neg (by rw [← hs.resolve_left h0]; exact h0), out, decide_eq_true (P20.text_ne h.s0 h.s1)]; rfl
theorem z_check {l : List Int} (s : Int) (ls : List (List UInt8)) (hl : P20.other l = (y, true)) : check [37, 122] off 2 s ls l = 0 := by
  unfold check
  rw [kind_z, if_neg (by decide), if_neg (by decide), if_neg (by decide), xt_exp h s hl, if_neg (by simp)]
theorem xt_check {l : List Int} (s : Int) (ls : List (List UInt8)) (hl : P20.other l = (y, true)) : check (xt off y) off 2 s ls l = 0 := by
  unfold check
  rw [xt_kind h, if_neg (by decide), if_neg (by decide), if_neg (by decide), xt_exp h s hl, if_neg (by simp)]
theorem xt_wrong {o2 : Int} (h2 : Fits o2 y) (hne : o2 ≠ off) {l : List Int} (s : Int) (ls : List (List UInt8)) (hl : P20.other l = (y, true)) : check (xt off y) o2 2 s ls l = 15 := by
  have hx : xt o2 y ≠ xt off y := fun q => by
    have e := xt_slash h2
    rw [q, xt_slash h] at e
    injection e with e1 e2
    exact hne (P20.text_inj h2.o0 h2.o1 h.o0 h.o1 e1.symm)
  unfold check
  rw [xt_kind h, if_neg (by decide), if_neg (by decide), if_neg (by decide), xt_exp h2 s hl, if_pos (.inr ⟨rfl, hx⟩)]
end
end P21
/-- the offset of an era by a number -/
def offOf (o : Int) : Int := (o.tmod 49 - 24) * 1800
theorem offOf_bd {o : Int} (h : 0 ≤ o) : -43200 ≤ offOf o ∧ offOf o ≤ 43200 := by
  unfold offOf
  rw [Int.tmod_eq_emod_of_nonneg h]
  omega
theorem fits_of {D : List Int} {off : Int} (h : -43200 ≤ off ∧ off ≤ 70000) : P21.Fits off (P17.sv D) := by
  have := P17.sv_cases D
  exact ⟨by omega, by omega, by omega, by omega⟩
theorem P17.Good.other {D : List Int} {nm : ByteArray} {L : List RV} (h : P17.Good D nm L) : P20.other (svs L) = (P17.sv D, true) := by
  refine P21.other_good (P17.sv_ne D) _ (fun x hx => ?_) ?_
  · unfold svs at hx
    obtain ⟨r, hr, rfl⟩ := List.mem_map.1 hx
    exact h.saves r hr
  · obtain ⟨r, hr, e⟩ := h.has
    exact List.mem_map.2 ⟨r, hr, e⟩
theorem P17.Good.sv {D : List Int} {nm : ByteArray} {L : List RV} (h : P17.Good D nm L) : ∀ x ∈ svs L, x = 0 ∨ x = P17.sv D := fun x hx => by
  unfold svs at hx
  obtain ⟨r, hr, rfl⟩ := List.mem_map.1 hx
  exact h.saves r hr
theorem P17.Good.svOk {D : List Int} {nm : ByteArray} {L : List RV} (h : P17.Good D nm L) : SvOk L := fun y hy => by
  have := P17.sv_cases D
  rcases h.sv y hy with rfl | rfl <;> omega
theorem P17.isLet_size {b : ByteArray} (h : P17.isLet b) : b.size ≤ 2 := by rcases h with rfl | rfl | rfl | rfl <;> decide
theorem P17.Good.lets {D : List Int} {nm : ByteArray} {L : List RV} (h : P17.Good D nm L) : ∀ x ∈ lets L, x = [] ∨ x = [83] ∨ x = [68] ∨ x = [68, 84] := fun x hx => by
  unfold Go.Proofs.YtmhciidliicheaaDoor.lets at hx
  obtain ⟨r, hr, rfl⟩ := List.mem_map.1 hx
  rcases h.letters r hr with e | e | e | e <;> rw [e]
  · exact .inl rfl
  · exact .inr (.inl rfl)
  · exact .inr (.inr (.inl rfl))
  · exact .inr (.inr (.inr rfl))
end Go.Proofs.YtmhciidliicheaaDoor
