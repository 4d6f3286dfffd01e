/- The rules that a draft of chapter 17 makes, as a function of its bytes; no program in sight. -/
import Derived.Test.YtmhciidliicheaaDoorRules
namespace Go.Proofs.YtmhciidliicheaaDoor
set_option linter.unusedVariables false

namespace P17
/-- a number of the draft, below m -/
def at_ (D : List Int) (i m : Nat) : Nat := if D.length = 0 then 0 else ((D[i % D.length]?).getD 0).toNat % m
theorem at_lt (D : List Int) (i : Nat) {m : Nat} (h : 0 < m) : at_ D i m < m := by
  unfold at_
  split
  · exact h
  · exact Nat.mod_lt _ h
def day (D : List Int) (i : Nat) : Int × Int × Int :=
  if at_ D (i + 2) 3 = 0 then (2, (at_ D i 7 : Int), 0) else if at_ D (i + 2) 3 = 1 then (3, (at_ D i 7 : Int), 1 + 7 * (at_ D (i + 1) 4 : Int)) else (1, 0, 1 + (at_ D (i + 1) 28 : Int))
def sLet (n : Nat) : ByteArray := if n = 0 then ⟨#[83]⟩ else if n = 1 then ⟨#[68]⟩ else ⟨#[68, 84]⟩
def bLet (n : Nat) : ByteArray := if n = 0 then ⟨#[]⟩ else ⟨#[83]⟩
def pairA (D : List Int) (i : Nat) (from_ to_ sv : Int) : RV :=
  ⟨⟨#[]⟩, from_, to_, 2 + (at_ D i 3 : Int), (day D (i + 3)).1, (day D (i + 3)).2.1, (day D (i + 3)).2.2, (at_ D (i + 6) 49 : Int) * 1800, (at_ D (i + 7) 3 : Int), if at_ D (i + 2) 4 = 0 then 0 else sv, sLet (at_ D (i + 8) 3)⟩
def pairB (D : List Int) (i : Nat) (from_ to_ sv : Int) : RV :=
  ⟨⟨#[]⟩, from_, to_, 8 + (at_ D (i + 1) 3 : Int), (day D (i + 9)).1, (day D (i + 9)).2.1, (day D (i + 9)).2.2, (at_ D (i + 12) 49 : Int) * 1800, (at_ D (i + 13) 3 : Int), if at_ D (i + 2) 4 = 0 then sv else 0, bLet (at_ D (i + 14) 2)⟩
def pair (D : List Int) (i : Nat) (from_ to_ sv : Int) : List RV := [pairA D i from_ to_ sv, pairB D i from_ to_ sv]
def svOf (n : Nat) : Int := if n = 0 then 3600 else if n = 1 then 3600 else if n = 2 then 1800 else if n = 3 then 7200 else -3600
def sv (D : List Int) : Int := svOf (at_ D 0 5)
def from0 (D : List Int) : Int := 1900 + (at_ D 1 80 : Int)
def oneR (D : List Int) : RV := ⟨⟨#[]⟩, from0 D, from0 D, 6, 1, 0, 1 + (at_ D 3 28 : Int), (at_ D 4 49 : Int) * 1800, (at_ D 5 3 : Int), 0, ⟨#[83]⟩⟩
def part1 (D : List Int) : List RV := if at_ D 2 3 = 0 then [oneR D] else []
def from1 (D : List Int) : Int := if at_ D 2 3 = 0 then from0 D + 1 else from0 D
def to1 (D : List Int) : Int := from1 D + (at_ D 6 12 : Int)
def part2 (D : List Int) : List RV := if at_ D 5 2 = 0 then pair D 7 (from1 D) (to1 D) (sv D) else []
def from2 (D : List Int) : Int := if at_ D 5 2 = 0 then to1 D + 1 + (at_ D 8 5 : Int) else from1 D
def to2 (D : List Int) : Int := if at_ D 10 3 = 0 then from2 D + (at_ D 9 6 : Int) else 1048576
def raw (D : List Int) : List RV := part1 D ++ part2 D ++ pair D 11 (from2 D) (to2 D) (sv D)
def named (nm : ByteArray) (r : RV) : RV := { r with name := nm }
/-- the rules of a set with a name -/
def made (D : List Int) (nm : ByteArray) : List RV := (raw D).map (named nm)
theorem sv_cases (D : List Int) : sv D = 3600 ∨ sv D = 1800 ∨ sv D = 7200 ∨ sv D = -3600 := by
  unfold sv svOf
  split
  · exact .inl rfl
  · split
    · exact .inl rfl
    · split
      · exact .inr (.inl rfl)
      · split
        · exact .inr (.inr (.inl rfl))
        · exact .inr (.inr (.inr rfl))
theorem sv_ne (D : List Int) : sv D ≠ 0 := by have := sv_cases D; omega
def isLet (b : ByteArray) : Prop := b = ⟨#[]⟩ ∨ b = ⟨#[83]⟩ ∨ b = ⟨#[68]⟩ ∨ b = ⟨#[68, 84]⟩
theorem sLet_is (n : Nat) : isLet (sLet n) := by
  unfold sLet isLet
  split
  · exact .inr (.inl rfl)
  · split
    · exact .inr (.inr (.inl rfl))
    · exact .inr (.inr (.inr rfl))
theorem bLet_is (n : Nat) : isLet (bLet n) := by
  unfold bLet isLet
  split
  · exact .inl rfl
  · exact .inr (.inl rfl)
/-- what the laws want of a set -/
structure Good (D : List Int) (nm : ByteArray) (L : List RV) : Prop where
  two : 2 ≤ L.length
  five : L.length ≤ 5
  names : ∀ r ∈ L, r.name = nm
  saves : ∀ r ∈ L, r.save = 0 ∨ r.save = sv D
  has : ∃ r ∈ L, r.save = sv D
  letters : ∀ r ∈ L, isLet r.letter
theorem pair_good (D : List Int) (i : Nat) (f t s : Int) : (∀ r ∈ pair D i f t s, (r.save = 0 ∨ r.save = s) ∧ isLet r.letter) ∧ ∃ r ∈ pair D i f t s, r.save = s := by
  refine ⟨fun r hr => ?_, ?_⟩
  · unfold pair at hr
    simp only [List.mem_cons, List.not_mem_nil, or_false] at hr
    rcases hr with rfl | rfl
    · refine ⟨?_, sLet_is _⟩
      show (if _ then (0 : Int) else s) = 0 ∨ (if _ then (0 : Int) else s) = s
      split
      · exact .inl rfl
      · exact .inr rfl
    · refine ⟨?_, bLet_is _⟩
      show (if _ then s else (0 : Int)) = 0 ∨ (if _ then s else (0 : Int)) = s
      split
      · exact .inr rfl
      · exact .inl rfl
  · by_cases h : at_ D (i + 2) 4 = 0
    · exact ⟨pairB D i f t s, by simp [pair], by unfold pairB; simp only; rw [if_pos h]⟩
    · exact ⟨pairA D i f t s, by simp [pair], by unfold pairA; simp only; rw [if_neg h]⟩
theorem raw_good (D : List Int) : 2 ≤ (raw D).length ∧ (raw D).length ≤ 5 ∧ (∀ r ∈ raw D, (r.save = 0 ∨ r.save = sv D) ∧ isLet r.letter) ∧ ∃ r ∈ raw D, r.save = sv D := by
  have p1 := pair_good D 11 (from2 D) (to2 D) (sv D)
  have p2 := pair_good D 7 (from1 D) (to1 D) (sv D)
  have l1 : (part1 D).length ≤ 1 := by unfold part1; split <;> simp
  have l2 : (part2 D).length ≤ 2 := by unfold part2 pair; split <;> simp
  have e : (raw D).length = (part1 D).length + (part2 D).length + 2 := by unfold raw; rw [List.length_append, List.length_append]; rfl
  refine ⟨by omega, by omega, fun r hr => ?_, ?_⟩
  · unfold raw at hr
    rw [List.mem_append, List.mem_append] at hr
    rcases hr with (hr | hr) | hr
    · unfold part1 at hr
      split at hr
      · rw [List.mem_singleton] at hr; subst hr; exact ⟨.inl rfl, .inr (.inl rfl)⟩
      · cases hr
    · unfold part2 at hr
      split at hr
      · exact p2.1 r hr
      · cases hr
    · exact p1.1 r hr
  · obtain ⟨r, hr, h⟩ := p1.2
    exact ⟨r, by unfold raw; exact List.mem_append_right _ hr, h⟩
theorem made_good (D : List Int) (nm : ByteArray) : Good D nm (made D nm) := by
  obtain ⟨h1, h2, h3, r, hr, h4⟩ := raw_good D
  have key : ∀ r ∈ made D nm, ∃ q ∈ raw D, r = named nm q := fun r hr => by
    unfold made at hr
    obtain ⟨q, hq, h⟩ := List.mem_map.1 hr
    exact ⟨q, hq, h.symm⟩
  refine ⟨by unfold made; rw [List.length_map]; exact h1, by unfold made; rw [List.length_map]; exact h2, fun r hr => ?_, fun r hr => ?_, ⟨named nm r, List.mem_map.2 ⟨r, hr, rfl⟩, h4⟩, fun r hr => ?_⟩
  · obtain ⟨q, hq, rfl⟩ := key r hr; rfl
  · obtain ⟨q, hq, rfl⟩ := key r hr; exact (h3 q hq).1
  · obtain ⟨q, hq, rfl⟩ := key r hr; exact (h3 q hq).2
end P17
end Go.Proofs.YtmhciidliicheaaDoor
