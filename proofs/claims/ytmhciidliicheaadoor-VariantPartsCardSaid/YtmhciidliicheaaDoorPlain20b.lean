/- Plain mathematics of what stands for %z in an era (chapter 20). -/
import Derived.Test.YtmhciidliicheaaDoorPlain20
namespace Go.Proofs.YtmhciidliicheaaDoor.P20
open Go.Proofs.YtmhciidliicheaaDoor

/-- the one save other than 0 of a list, carried on from x -/
def otherFrom (x : Int) : List Int → Int × Bool
  | [] => (x, decide (x ≠ 0))
  | r :: l => if r = 0 then otherFrom x l else if x ≠ 0 ∧ r ≠ x then (0, false) else otherFrom r l
def other (l : List Int) : Int × Bool := otherFrom 0 l
def one (t : List UInt8) : List UInt8 × Int := if t = [] then ([], 3) else (t, 0)
def both (s t : List UInt8) : List UInt8 × Int := if s = [] ∨ t = [] then ([], 3) else (s ++ 47 :: t, 0)
def expansion (kind off save : Int) (l : List Int) : List UInt8 × Int :=
  if kind = 0 then one (text off)
  else if kind = 1 then one (text (off + save))
  else if kind = 2 then
    if (other l).2 then both (text off) (text (off + (other l).1))
    else if l.any (fun r => decide (r ≠ 0)) then ([], 14) else one (text off)
  else ([], 2)
theorem other_zero : ∀ (l : List Int), (∀ r ∈ l, r = 0) → other l = (0, false) := by
  intro l
  unfold other
  induction l with
  | nil => intro _; rfl
  | cons a l ih =>
    intro h
    rw [otherFrom, if_pos (h a (List.mem_cons_self ..))]
    exact ih fun r hr => h r (List.mem_cons_of_mem _ hr)
end Go.Proofs.YtmhciidliicheaaDoor.P20
