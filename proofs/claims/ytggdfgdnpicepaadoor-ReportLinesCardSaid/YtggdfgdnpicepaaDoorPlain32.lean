/- Chapter 32 (reports) in plain Lean: what differs in rules and eras, the changes of two sources, their text. No function of the program. -/
import Derived.Test.YtggdfgdnpicepaaDoorSrc
import Derived.Lib.ItoaNum
namespace Go.Proofs.YtggdfgdnpicepaaDoor.P32
open Go.Proofs.YtggdfgdnpicepaaDoor
set_option linter.unusedVariables false

/-- a change -/
structure CV where
  part : Int
  index : Int
  era : Int
  what : Int
  deriving DecidableEq
def CV.cells (c : CV) : List Value := [.int .i64 c.part, .int .i64 c.index, .int .i64 c.era, .int .i64 c.what]
def diffR (a b : RV) : Int := (if a.save = b.save then 0 else 1) + (if a.asec = b.asec then 0 else 2)
def sameR (a b : RV) : Bool := decide (a.name = b.name ∧ a.frm = b.frm ∧ a.til = b.til ∧ a.month = b.month ∧ a.dk = b.dk ∧ a.dw = b.dw ∧ a.dd = b.dd ∧ a.abase = b.abase ∧ a.letter = b.letter)
def diffE (a b : EV) : Int := (if a.off = b.off then 0 else 4) + (if a.fmt = b.fmt then 0 else 8) + (if a.asec = b.asec then 0 else 16)
def sameE (a b : EV) : Bool := decide (a.kind = b.kind ∧ a.save = b.save ∧ a.set = b.set ∧ a.ui = b.ui ∧ a.uy = b.uy ∧ a.um = b.um ∧ a.dk = b.dk ∧ a.dw = b.dw ∧ a.dd = b.dd ∧ a.ab = b.ab)
/-- the changes of the first k elements -/
def ch {α : Type} (diff : α → α → Int) (mk : Nat → Int → CV) (A B : List α) (k : Nat) : List CV :=
  (List.range k).filterMap fun i => match A[i]?, B[i]? with
    | some a, some b => if diff a b = 0 then none else some (mk i (diff a b))
    | _, _ => none
def mkR (i : Nat) (d : Int) : CV := ⟨1, i, 0, d⟩
def mkE (z i : Nat) (d : Int) : CV := ⟨2, z, i, d⟩
/-- the first k elements have the same shape -/
def okTo {α : Type} (same : α → α → Bool) (A B : List α) (k : Nat) : Prop := ∀ i a b, i < k → A[i]? = some a → B[i]? = some b → same a b = true
def okAll {α : Type} (same : α → α → Bool) (A B : List α) : Prop := A.length = B.length ∧ okTo same A B A.length
theorem ch_zero {α : Type} (diff : α → α → Int) (mk : Nat → Int → CV) (A B : List α) : ch diff mk A B 0 = [] := rfl
theorem ch_succ {α : Type} (diff : α → α → Int) (mk : Nat → Int → CV) (A B : List α) (k : Nat) (a b : α) (ha : A[k]? = some a) (hb : B[k]? = some b) :
    ch diff mk A B (k + 1) = ch diff mk A B k ++ (if diff a b = 0 then [] else [mk k (diff a b)]) := by
  unfold ch
  rw [List.range_succ, List.filterMap_append]
  congr 1
  simp only [List.filterMap_cons, List.filterMap_nil, ha, hb]
  split <;> simp_all
theorem ch_len {α : Type} (diff : α → α → Int) (mk : Nat → Int → CV) (A B : List α) (k : Nat) : (ch diff mk A B k).length ≤ k := by
  unfold ch
  exact Nat.le_trans (List.length_filterMap_le _ _) (by rw [List.length_range]; exact Nat.le_refl _)
theorem okTo_zero {α : Type} (same : α → α → Bool) (A B : List α) : okTo same A B 0 := fun i a b h => by omega
theorem okTo_succ {α : Type} {same : α → α → Bool} {A B : List α} {k : Nat} {a b : α} (h : okTo same A B k) (ha : A[k]? = some a) (hb : B[k]? = some b) (hs : same a b = true) : okTo same A B (k + 1) := by
  intro i x y hi hx hy
  by_cases e : i < k
  · exact h i x y e hx hy
  · obtain rfl : i = k := by omega
    rw [ha] at hx; rw [hb] at hy
    injection hx with hx; injection hy with hy
    rw [← hx, ← hy]; exact hs
theorem okAll_not {α : Type} {same : α → α → Bool} {A B : List α} {k : Nat} {a b : α} (ha : A[k]? = some a) (hb : B[k]? = some b) (hs : same a b = false) : ¬ okAll same A B := by
  rintro ⟨_, h⟩
  have := h k a b (List.getElem?_eq_some_iff.mp ha).1 ha hb
  rw [hs] at this; cases this
/-- the changes of the zones up to n -/
def chZ (Z Y : List ZV) : Nat → List CV
  | 0 => []
  | n + 1 => chZ Z Y n ++ (match Z[n]?, Y[n]? with
    | some z, some y => ch diffE (mkE n) z.eras y.eras z.eras.length
    | _, _ => [])
def sameZ (z y : ZV) : Prop := z.name = y.name ∧ okAll sameE z.eras y.eras
def okZ (Z Y : List ZV) (k : Nat) : Prop := ∀ i z y, i < k → Z[i]? = some z → Y[i]? = some y → sameZ z y
/-- two sources have the same shape -/
def okS (a b : SV) : Prop := okAll sameR a.rules b.rules ∧ a.zones.length = b.zones.length ∧ okZ a.zones b.zones a.zones.length ∧ a.links = b.links
/-- all changes of two sources of the same shape -/
def chS (a b : SV) : List CV := ch diffR mkR a.rules b.rules a.rules.length ++ chZ a.zones b.zones a.zones.length

/-- the words of a change -/
def wordL (c : Bool) (s : List UInt8) : List UInt8 := if c then 32 :: s else []
def bit (w : Int) (b : Int) : Bool := decide (w / b % 2 ≠ 0)
def lineR (c : CV) : List UInt8 := [114, 117, 108, 101, 32] ++ Lib.decDigits c.index.toNat ++ wordL (bit c.what 1) [115, 97, 118, 101] ++ wordL (bit c.what 2) [97, 116] ++ [10]
def lineE (c : CV) : List UInt8 := [101, 114, 97, 32] ++ Lib.decDigits c.index.toNat ++ [32] ++ Lib.decDigits c.era.toNat ++ wordL (bit c.what 4) [111, 102, 102] ++ wordL (bit c.what 8) [102, 111, 114, 109, 97, 116] ++ wordL (bit c.what 16) [117, 110, 116, 105, 108] ++ [10]
def rightR (c : CV) : Prop := c.part = 1 ∧ 0 ≤ c.index ∧ c.era = 0 ∧ 1 ≤ c.what ∧ c.what ≤ 3
def rightE (c : CV) : Prop := c.part = 2 ∧ 0 ≤ c.index ∧ 0 ≤ c.era ∧ 4 ≤ c.what ∧ c.what ≤ 28 ∧ c.what % 4 = 0
instance (c : CV) : Decidable (rightR c) := by unfold rightR; infer_instance
instance (c : CV) : Decidable (rightE c) := by unfold rightE; infer_instance
def line (c : CV) : List UInt8 := if c.part = 1 then lineR c else lineE c
def right (c : CV) : Prop := rightR c ∨ rightE c
instance (c : CV) : Decidable (right c) := by unfold right; infer_instance
def text (l : List CV) : List UInt8 × Int := if ∀ c ∈ l, right c then (l.flatMap line, 0) else ([], 2)
end Go.Proofs.YtggdfgdnpicepaaDoor.P32
