/- Texts of one proof, one behind the other: Plain4; Plain4e; Plain20; Plain20b; Plain21; Plain21b; Com; Blk; Own; Plain20c; Num20a; Plain20d; Dec4; Shelf; Num20b; Num20c. -/
import Derived.Lib.ItoaNum
import Derived.Lib.IndexBytes
import Derived.Shelf.GgClosure.StringsIndexFunc
import Derived.Lib.IndexMore
import Derived.Laws.RangeAny
import Derived.WalkKit
import Derived.WalkSpells
import Derived.WalkLawsBesides
import Derived.BigQuiet
import Derived.Deep.QuietTactic
import Derived.Lib.Hide
import Derived.Below
import Derived.Laws.AppendOwn
import Derived.Laws.OwnMore
import Derived.Laws.BytesString
import Derived.Test.YtlideagcmhlkeaaDoorChecked
import Derived.Deep.DeepCutAuto
import Derived.Deep.CutBlock
import Derived.ArgAppend
import Derived.Deep.LoopGhost
import Derived.WalkMore
import Derived.Lib.ParseIntB
import Derived.Shelf.Strings.Builder1
import Derived.Shelf.Strings.Builder2
import Derived.Shelf.Strings.OnBuilder
import Derived.Shelf.Strconv.Itoa0
import Derived.Shelf.Strconv.Itoa1
import Derived.Shelf.LaysM
import Derived.Shelf.Strconv.Itoa2
import Derived.Shelf.Strconv.Itoa3
import Derived.Ground.MpProg
import Derived.Shelf.Pu.ParseUintPublic10
import Derived.Shelf.Pu.ErrVarParseUint
import Derived.Shelf.Strings.Search1
import Derived.Shelf.Strings.Search2
import Derived.Shelf.Strings.Cut
import Derived.Shelf.Strings.Shaped
import Derived.Shelf.Strings.Prefix
import Derived.Ground.SlgnProg
import Derived.Shelf.SlicesE.Equal
import Derived.Shelf.SlicesE.Clone
import Derived.Test.YtlideagcmhlkeaaDoorProg
import Derived.Lib.AtoiErrMem

/- Plain mathematics of amounts of time (chapter 4): what a string of bytes is read as, what a number is printed as; no program in sight. -/
namespace Go.Proofs.YtlideagcmhlkeaaDoor.P4

/-- a decimal digit -/
def isD (c : UInt8) : Bool := decide (48 ≤ c.toNat ∧ c.toNat ≤ 57)
/-- the number of a list of digits, on top of a number -/
def valFrom (a : Int) : List UInt8 → Int
  | [] => a
  | c :: l => valFrom (10 * a + ((c.toNat : Int) - 48)) l
def val (l : List UInt8) : Int := valFrom 0 l
/-- a colon and two digits below 60 -/
def pairL : List UInt8 → Option Int
  | a :: b :: _ => if isD a && isD b && decide (a.toNat ≤ 53) then some (10 * ((a.toNat : Int) - 48) + ((b.toNat : Int) - 48)) else none
  | _ => none
/-- the amount of a string without a sign -/
def amount (l : List UInt8) : Option Int :=
  let k := (l.takeWhile isD).length
  if k = 0 ∨ 3 < k ∨ (1 < k ∧ l[0]? = some 48) then none
  else if l.length = k then some (3600 * val (l.take k))
  else if l[k]? ≠ some 58 then none
  else match pairL (l.drop (k + 1)) with
    | none => none
    | some m =>
      if l.length = k + 3 then some (3600 * val (l.take k) + 60 * m)
      else if l[k + 3]? ≠ some 58 then none
      else match pairL (l.drop (k + 4)) with
        | none => none
        | some s => if l.length = k + 6 then some (3600 * val (l.take k) + 60 * m + s) else none
/-- what a string is read as: the amount, and the error's number -/
def parse (l : List UInt8) : Int × Int :=
  let minus := l[0]? == some 45
  match amount (if minus then l.drop 1 else l) with
  | none => (0, 5)
  | some x => if minus && x == 0 then (0, 5) else if 604799 < x then (0, 3) else (if minus then -x else x, 0)

/-- two digits -/
def two (n : Nat) : List UInt8 := [UInt8.ofNat (48 + n / 10), UInt8.ofNat (48 + n % 10)]
/-- the bytes of a string -/
abbrev bl (s : ByteArray) : List UInt8 := s.data.toList
theorem bl_len (s : ByteArray) : (bl s).length = s.size := by simp [bl]
theorem bl_get (s : ByteArray) (k : Nat) (h : k < s.size) : (bl s)[k]? = some (s[k]'h) := by
  have h' : k < (bl s).length := by rw [bl_len]; exact h
  rw [List.getElem?_eq_getElem h']; rfl
/-- the reference's pair, -1 for none -/
def pr (l : List UInt8) (k : Nat) : Int := (pairL (l.drop k)).getD (-1)
theorem pairL_bd {l : List UInt8} {x : Int} (h : pairL l = some x) : 0 ≤ x ∧ x ≤ 59 := by
  unfold pairL at h
  split at h
  · rename_i a b r
    split at h
    · rename_i hc
      simp only [isD, Bool.and_eq_true, decide_eq_true_eq] at hc
      injection h with h
      omega
    · cases h
  · cases h
theorem valFrom_snoc (a : Int) (l : List UInt8) (c : UInt8) : valFrom a (l ++ [c]) = 10 * valFrom a l + ((c.toNat : Int) - 48) := by
  induction l generalizing a with
  | nil => rfl
  | cons x r ih => simp only [List.cons_append, valFrom]; exact ih _
theorem val_snoc (l : List UInt8) (c : UInt8) : val (l ++ [c]) = 10 * val l + ((c.toNat : Int) - 48) := valFrom_snoc 0 l c
theorem val_take (l : List UInt8) (k : Nat) (c : UInt8) (h : l[k]? = some c) : val (l.take (k + 1)) = 10 * val (l.take k) + ((c.toNat : Int) - 48) := by
  rw [List.take_add_one, h]; exact val_snoc _ _
theorem val_bd (l : List UInt8) (k : Nat) (hk : k ≤ 4) (hd : ∀ i, i < k → ∀ c, l[i]? = some c → isD c = true) (hl : k ≤ l.length) : 0 ≤ val (l.take k) ∧ val (l.take k) ≤ 9999 ∧ (k ≤ 3 → val (l.take k) ≤ 999) ∧ (k ≤ 2 → val (l.take k) ≤ 99) ∧ (k ≤ 1 → val (l.take k) ≤ 9) ∧ (k = 0 → val (l.take k) = 0) := by
  induction k with
  | zero => simp [val, valFrom]
  | succ k ih =>
    have h := ih (by omega) (fun i hi => hd i (by omega)) (by omega)
    have hc : l[k]? = some (l[k]'(by omega)) := List.getElem?_eq_getElem (by omega)
    have hdd := hd k (by omega) _ hc
    simp only [isD, decide_eq_true_eq] at hdd
    rw [val_take l k _ hc]
    obtain ⟨h1, h2, h3, h4, h5, h6⟩ := h
    refine ⟨?_, ?_, ?_, ?_, ?_, ?_⟩
    · omega
    · have := h3 (by omega); omega
    · intro q; have := h4 (by omega); omega
    · intro q; have := h5 (by omega); omega
    · intro q; have := h6 (by omega); omega
    · intro q; omega
section
variable {l : List UInt8} {k : Nat} (hk : (l.takeWhile isD).length = k)
include hk
end
def pv (l : List UInt8) : Int := (parse l).1
/-- the first byte is a minus sign -/
def minusB (l : List UInt8) : Bool := l[0]? == some 45
theorem takeWhile_isD (l : List UInt8) (i : Nat) (hi : i < (l.takeWhile isD).length) (c : UInt8) (hc : l[i]? = some c) : isD c = true := by
  induction l generalizing i with
  | nil => simp at hi
  | cons x r ih =>
    by_cases hx : isD x = true
    · cases i with
      | zero => simp at hc; subst hc; exact hx
      | succ i =>
        simp only [List.takeWhile, hx, List.length_cons] at hi
        exact ih i (by omega) (by simpa using hc)
    · simp [List.takeWhile, hx] at hi
theorem amount_bd {l : List UInt8} {x : Int} (h : amount l = some x) : 0 ≤ x ∧ x ≤ 3600000 := by
  unfold amount at h
  have hd := takeWhile_isD l
  have hle : (l.takeWhile isD).length ≤ l.length := (List.takeWhile_prefix isD).length_le
  generalize (l.takeWhile isD).length = k at *
  simp only at h
  by_cases h0 : k = 0 ∨ 3 < k ∨ 1 < k ∧ l[0]? = some 48
  · rw [if_pos h0] at h; cases h
  · rw [if_neg h0] at h
    have hk3 : k ≤ 3 := Nat.le_of_not_lt fun q => h0 (.inr (.inl q))
    obtain ⟨b0, _, b3, _⟩ := val_bd l k (by omega) hd hle
    have b3 := b3 hk3
    by_cases h1 : l.length = k
    · rw [if_pos h1] at h; injection h with h; omega
    · rw [if_neg h1] at h
      by_cases h2 : l[k]? ≠ some 58
      · rw [if_pos h2] at h; cases h
      · rw [if_neg h2] at h
        cases hp : pairL (l.drop (k + 1)) with
        | none => rw [hp] at h; cases h
        | some m =>
          rw [hp] at h
          have hm := pairL_bd hp
          simp only at h
          by_cases h3 : l.length = k + 3
          · rw [if_pos h3] at h; injection h with h; omega
          · rw [if_neg h3] at h
            by_cases h4 : l[k + 3]? ≠ some 58
            · rw [if_pos h4] at h; cases h
            · rw [if_neg h4] at h
              cases hq : pairL (l.drop (k + 4)) with
              | none => rw [hq] at h; cases h
              | some y =>
                rw [hq] at h
                have hy := pairL_bd hq
                simp only at h
                by_cases h5 : l.length = k + 6
                · rw [if_pos h5] at h; injection h with h; omega
                · rw [if_neg h5] at h; cases h
end Go.Proofs.YtlideagcmhlkeaaDoor.P4

/- Plain laws of chapter 4: what is printed is read back; what is read can be printed; what has another form is refused. -/
namespace Go.Proofs.YtlideagcmhlkeaaDoor.P4
set_option linter.unusedVariables false

/-- what is read lies within the limit, or is 0 with an error -/
theorem parse_cases (l : List UInt8) : ((parse l).2 = 0 ∧ -604799 ≤ (parse l).1 ∧ (parse l).1 ≤ 604799) ∨ ((parse l).1 = 0 ∧ ((parse l).2 = 3 ∨ (parse l).2 = 5)) := by
  have hb := fun x h => amount_bd (l := if minusB l then l.drop 1 else l) (x := x) h
  unfold parse
  simp only
  rw [show (l[0]? == some 45) = minusB l from rfl]
  cases hx : amount (if minusB l then l.drop 1 else l) with
  | none => exact .inr ⟨rfl, .inr rfl⟩
  | some x =>
    have := hb x hx
    simp only
    split
    · exact .inr ⟨rfl, .inr rfl⟩
    · split
      · exact .inr ⟨rfl, .inl rfl⟩
      · left; refine ⟨rfl, ?_⟩; simp only; split <;> omega
end Go.Proofs.YtlideagcmhlkeaaDoor.P4

/- Plain mathematics of numeric abbreviations (chapter 20): an offset's text, what a text is read as, and that they are each other's inverses. -/
namespace Go.Proofs.YtlideagcmhlkeaaDoor.P20

/-- the digits of an amount -/
def textN (n : Nat) : List UInt8 := P4.two (n / 3600) ++ (if n % 3600 = 0 then [] else P4.two (n / 60 % 60)) ++ (if n % 60 = 0 then [] else P4.two (n % 60))
def text (x : Int) : List UInt8 := if x ≤ -86400 ∨ 86400 ≤ x then [] else (if x < 0 then 45 else 43) :: textN x.natAbs
/-- the value of one or two bytes; strict: of two alone -/
def chunk (st : Bool) (c : List UInt8) : Option Int := if c.all P4.isD = true ∧ (st = true → c.length = 2) then some (P4.val c) else none
/-- the sum of the parts -/
def pv (st : Bool) : List Int → Int → List UInt8 → Option Int
  | [], acc, _ => some acc
  | u :: us, acc, r => if r = [] then some acc else
    match chunk st (r.take 2) with
    | none => none
    | some v => pv st us (acc + v * u) (r.drop 2)
def units : List Int := [3600, 60, 1]
def sgn (s : List UInt8) (x : Int) : Int := if s[0]? = some 45 then -x else x
def fin (s : List UInt8) : Option Int → Int × Int
  | none => (0, 5)
  | some x => if s ≠ [] ∧ text (sgn s x) = s then (sgn s x, 0) else (0, 5)
theorem fin_some (s : List UInt8) (x : Int) : fin s (some x) = if s ≠ [] ∧ text (sgn s x) = s then (sgn s x, 0) else (0, 5) := rfl
theorem fin_none (s : List UInt8) : fin s none = (0, 5) := rfl
def parseB (st : Bool) (s : List UInt8) : Int × Int := fin s (pv st units 0 (s.drop 1))
def parse (s : List UInt8) : Int × Int := parseB true s

theorem textN_len (n : Nat) : (textN n).length = 2 ∨ (textN n).length = 4 ∨ (textN n).length = 6 := by
  unfold textN
  have h2 : ∀ k, (P4.two k).length = 2 := fun _ => rfl
  by_cases h : n % 3600 = 0
  · rw [if_pos h, if_pos (by omega)]; left; simp [h2]
  · rw [if_neg h]
    by_cases h' : n % 60 = 0
    · rw [if_pos h']; right; left; simp [h2]
    · rw [if_neg h']; right; right; simp [h2]
theorem text_len (x : Int) : (text x).length = 0 ∨ (text x).length = 3 ∨ (text x).length = 5 ∨ (text x).length = 7 := by
  unfold text
  split
  · left; rfl
  · have := textN_len x.natAbs
    simp only [List.length_cons]; omega
theorem pv_eq (us : List Int) : ∀ (acc : Int) (r : List UInt8), pv false us acc r = pv true us acc r ∨ (r.length % 2 = 1 ∧ pv true us acc r = none) := by
  induction us with
  | nil => intro acc r; exact .inl rfl
  | cons u us ih =>
    intro acc r
    match r with
    | [] => exact .inl rfl
    | [a] =>
      right
      refine ⟨rfl, ?_⟩
      unfold pv
      rw [if_neg (by simp)]
      have : chunk true (List.take 2 [a]) = none := by
        unfold chunk
        rw [if_neg]
        rintro ⟨_, h⟩
        exact absurd (h rfl) (by simp)
      rw [this]
    | a :: b :: r =>
      have hc : chunk false (List.take 2 (a :: b :: r)) = chunk true (List.take 2 (a :: b :: r)) := by
        unfold chunk; simp
      unfold pv
      rw [if_neg (by simp), if_neg (by simp), hc]
      cases chunk true (List.take 2 (a :: b :: r)) with
      | none => exact .inl rfl
      | some v =>
        rcases ih (acc + v * u) r with h | ⟨h1, h2⟩
        · exact .inl h
        · exact .inr ⟨by simp only [List.length_cons]; omega, h2⟩
theorem parse_loose (s : List UInt8) : parseB false s = parse s := by
  unfold parse parseB
  rcases pv_eq units 0 (s.drop 1) with h | ⟨h1, h2⟩
  · rw [h]
  · rw [h2]
    cases h : pv false units 0 (s.drop 1) with
    | none => rfl
    | some x =>
      rw [fin_some, fin_none, if_neg]
      rintro ⟨_, e⟩
      have hl := text_len (sgn s x)
      rw [e] at hl
      rw [List.length_drop] at h1
      omega
theorem fin_cases (s : List UInt8) (o : Option Int) : (∃ y, fin s o = (y, 0) ∧ text y = s ∧ s ≠ []) ∨ fin s o = (0, 5) := by
  cases o with
  | none => exact .inr rfl
  | some x =>
    rw [fin_some]
    by_cases h : s ≠ [] ∧ text (sgn s x) = s
    · rw [if_pos h]; exact .inl ⟨_, rfl, h.2, h.1⟩
    · rw [if_neg h]; exact .inr rfl
theorem text_bd {y : Int} (h : text y ≠ []) : -86399 ≤ y ∧ y ≤ 86399 := by
  unfold text at h
  split at h
  · exact absurd rfl h
  · omega
theorem parse_cases (s : List UInt8) : (∃ y, parse s = (y, 0) ∧ text y = s ∧ s ≠ [] ∧ -86399 ≤ y ∧ y ≤ 86399) ∨ parse s = (0, 5) := by
  rcases fin_cases s (pv true units 0 (s.drop 1)) with ⟨y, h, e, hn⟩ | h
  · exact .inl ⟨y, h, e, hn, (text_bd (by rw [e]; exact hn)).1, (text_bd (by rw [e]; exact hn)).2⟩
  · exact .inr h
theorem chunk_two (st : Bool) (k : Nat) (hk : k < 100) (r : List UInt8) : chunk st ((P4.two k ++ r).take 2) = some (k : Int) := by
  have e : (P4.two k ++ r).take 2 = P4.two k := by simp [P4.two]
  rw [e]
  have h1 : (UInt8.ofNat (48 + k / 10)).toNat = 48 + k / 10 := by rw [UInt8.toNat_ofNat']; omega
  have h2 : (UInt8.ofNat (48 + k % 10)).toNat = 48 + k % 10 := by rw [UInt8.toNat_ofNat']; omega
  unfold chunk
  rw [if_pos]
  · simp only [P4.two, P4.val, P4.valFrom, h1, h2]
    congr 1
    omega
  · refine ⟨?_, fun _ => rfl⟩
    simp only [P4.two, List.all_cons, List.all_nil, Bool.and_true, Bool.and_eq_true, P4.isD, decide_eq_true_eq, h1, h2]
    omega
theorem pv_two (st : Bool) (u : Int) (us : List Int) (acc : Int) (k : Nat) (hk : k < 100) (r : List UInt8) : pv st (u :: us) acc (P4.two k ++ r) = pv st us (acc + k * u) r := by
  have e : (P4.two k ++ r).drop 2 = r := by simp [P4.two]
  rw [pv, if_neg (by simp [P4.two]), chunk_two st k hk r, e]
theorem pv_nil (st : Bool) (us : List Int) (acc : Int) : pv st us acc [] = some acc := by
  cases us with
  | nil => rfl
  | cons u us => rw [pv, if_pos rfl]
theorem pv_h (st : Bool) (h : Nat) (hh : h < 100) : pv st units 0 (P4.two h) = some (3600 * h) := by
  have := pv_two st 3600 [60, 1] 0 h hh []
  rw [List.append_nil] at this
  rw [units, this, pv_nil]; congr 1; omega
theorem pv_hm (st : Bool) (h m : Nat) (hh : h < 100) (hm : m < 100) : pv st units 0 (P4.two h ++ P4.two m) = some (3600 * h + 60 * m) := by
  have := pv_two st 60 [1] (0 + h * 3600) m hm []
  rw [List.append_nil] at this
  rw [units, pv_two st _ _ _ h hh, this, pv_nil]; congr 1; omega
theorem pv_hms (st : Bool) (h m s : Nat) (hh : h < 100) (hm : m < 100) (hs : s < 100) : pv st units 0 (P4.two h ++ (P4.two m ++ P4.two s)) = some (3600 * h + 60 * m + s) := by
  have := pv_two st 1 [] (0 + h * 3600 + m * 60) s hs []
  rw [List.append_nil] at this
  rw [units, pv_two st _ _ _ h hh, pv_two st _ _ _ m hm, this, pv_nil]; congr 1; omega
theorem textN_pv (n : Nat) (h : n ≤ 86399) : pv true units 0 (textN n) = some (n : Int) := by
  unfold textN
  by_cases h1 : n % 3600 = 0
  · rw [if_pos h1, if_pos (by omega), List.append_nil, List.append_nil, pv_h true _ (by omega)]; exact congrArg some (by omega)
  · rw [if_neg h1]
    by_cases h2 : n % 60 = 0
    · rw [if_pos h2, List.append_nil, pv_hm true _ _ (by omega) (by omega)]; exact congrArg some (by omega)
    · rw [if_neg h2, List.append_assoc, pv_hms true _ _ _ (by omega) (by omega) (by omega)]; exact congrArg some (by omega)
theorem text_in {x : Int} (h0 : -86399 ≤ x) (h1 : x ≤ 86399) : text x = (if x < 0 then 45 else 43) :: textN x.natAbs := if_neg (by omega)
theorem text_out {x : Int} (h : x ≤ -86400 ∨ 86400 ≤ x) : text x = [] := if_pos h
theorem parse_text {x : Int} (h0 : -86399 ≤ x) (h1 : x ≤ 86399) : parse (text x) = (x, 0) := by
  have ht := text_in h0 h1
  unfold parse parseB
  rw [show (text x).drop 1 = textN x.natAbs by rw [ht]; rfl, textN_pv _ (by omega)]
  have hs : sgn (text x) (x.natAbs : Int) = x := by
    unfold sgn
    rw [ht]
    by_cases hx : x < 0
    · rw [if_pos hx, if_pos (by rfl)]; omega
    · rw [if_neg hx, if_neg (by simp)]; omega
  rw [fin_some, hs, if_pos ⟨by rw [ht]; simp, rfl⟩]
theorem text_ne {x : Int} (h0 : -86399 ≤ x) (h1 : x ≤ 86399) : text x ≠ [] := by rw [text_in h0 h1]; simp
end Go.Proofs.YtlideagcmhlkeaaDoor.P20

/- Plain mathematics of what stands for %z in an era (chapter 20). -/
namespace Go.Proofs.YtlideagcmhlkeaaDoor.P20
open Go.Proofs.YtlideagcmhlkeaaDoor

/-- the one save other than 0 of a list, carried on from x -/
def otherFrom (x : Int) : List Int → Int × Bool
  | [] => (x, decide (x ≠ 0))
  | r :: l => if r = 0 then otherFrom x l else if x ≠ 0 ∧ r ≠ x then (0, false) else otherFrom r l
def other (l : List Int) : Int × Bool := otherFrom 0 l
def one (t : List UInt8) : List UInt8 × Int := if t = [] then ([], 3) else (t, 0)
def both (s t : List UInt8) : List UInt8 × Int := if s = [] ∨ t = [] then ([], 3) else (s ++ 47 :: t, 0)
def expansion (kind off save : Int) (l : List Int) : List UInt8 × Int :=
  if kind = 0 then one (text off)
  else if kind = 1 then one (text (off + save))
  else if kind = 2 then
    if (other l).2 then both (text off) (text (off + (other l).1))
    else if l.any (fun r => decide (r ≠ 0)) then ([], 14) else one (text off)
  else ([], 2)
end Go.Proofs.YtlideagcmhlkeaaDoor.P20

/- Plain mathematics of FORMATs (chapter 21): abbreviations, cuts, kinds, parts; no program in sight. -/
namespace Go.Proofs.YtlideagcmhlkeaaDoor.P21

/-- an ASCII letter, as a number and as a byte -/
def isLr (r : Nat) : Bool := (decide (65 ≤ r) && decide (r ≤ 90)) || (decide (97 ≤ r) && decide (r ≤ 122))
def isL (c : UInt8) : Bool := isLr c.toNat
theorem isLr_high {r : Nat} (h : 128 ≤ r) : isLr r = false := by
  unfold isLr
  rw [decide_eq_false (show ¬ r ≤ 90 by omega), decide_eq_false (show ¬ r ≤ 122 by omega), Bool.and_false, Bool.and_false]; rfl
/-- an abbreviation: three to six letters -/
def abbr (l : List UInt8) : Bool := decide (3 ≤ l.length) && decide (l.length ≤ 6) && l.all isL
/-- what stands around the first slash, around the first %s -/
def slash (l : List UInt8) : List UInt8 × List UInt8 × Bool := Lib.cut l [47]
def pct (l : List UInt8) : List UInt8 × List UInt8 × Bool := Lib.cut l [37, 115]
def letter (l : List UInt8) : Bool := (pct l).2.2 && (((pct l).1 ++ (pct l).2.1).all isL && decide (((pct l).1 ++ (pct l).2.1).length ≤ 5))
def num (l : List UInt8) : Bool := decide ((P20.parse l).2 = 0)
def kind (l : List UInt8) : Int :=
  if abbr l = true then 1
  else if ((slash l).2.2 && abbr (slash l).1 && abbr (slash l).2.1) = true then 2
  else if letter l = true then 3
  else if l = [37, 122] then 4
  else if (num l || ((slash l).2.2 && num (slash l).1 && num (slash l).2.1)) = true then 5
  else 0
def two (l : List UInt8) : Bool := (slash l).2.2 && (decide (kind l = 2) || decide (kind l = 5))
def parts (l : List UInt8) : List UInt8 × List UInt8 × Bool := if two l = true then ((slash l).1, (slash l).2.1, true) else ([], [], false)
/-- the abbreviation, and the error's number -/
def out (t : List UInt8) (is : Bool) : List UInt8 × Int := if is = true then (t, 0) else ([], 15)
def abbrv (f : List UInt8) (off save : Int) (lt : List UInt8) : List UInt8 × Int :=
  if two f = true then (if save = 0 then ((slash f).1, 0) else ((slash f).2.1, 0))
  else if kind f = 3 then out ((pct f).1 ++ lt ++ (pct f).2.1) (abbr ((pct f).1 ++ lt ++ (pct f).2.1))
  else if kind f = 4 then out (P20.text (off + save)) (decide (P20.text (off + save) ≠ []))
  else if kind f = 0 then ([], 15)
  else (f, 0)
theorem kind_cases (l : List UInt8) : kind l = 0 ∨ kind l = 1 ∨ kind l = 2 ∨ kind l = 3 ∨ kind l = 4 ∨ kind l = 5 := by
  unfold kind
  repeat' split
  all_goals simp

/-- cuts by places -/
theorem cut_at {l sep : List UInt8} {i : Nat} (hi : i ≤ l.length) (ho : Lib.occAt l sep i = true) (hn : ∀ j, j < i → Lib.occAt l sep j = false) : Lib.cut l sep = (l.take i, l.drop (i + sep.length), true) := by
  have h := Lib.index_first hi ho hn
  unfold Lib.cut
  rw [h, if_pos (by omega)]; rfl
theorem cut_no {l sep : List UInt8} (hn : ∀ j, j ≤ l.length → Lib.occAt l sep j = false) : Lib.cut l sep = (l, [], false) := by
  have h := Lib.index_none hn
  unfold Lib.cut
  rw [h, if_neg (by omega)]
theorem cut_cases (l sep : List UInt8) : (Lib.cut l sep = (l, [], false) ∧ ∀ j, j ≤ l.length → Lib.occAt l sep j = false) ∨ ∃ i, i ≤ l.length ∧ Lib.occAt l sep i = true ∧ (∀ j, j < i → Lib.occAt l sep j = false) ∧ Lib.cut l sep = (l.take i, l.drop (i + sep.length), true) := by
  rcases Lib.index_spec l sep with ⟨h1, h2⟩ | ⟨i, h1, h2, h3, h4⟩
  · exact .inl ⟨cut_no h2, h2⟩
  · exact .inr ⟨i, h2, h3, h4, cut_at h2 h3 h4⟩
theorem beq_dec (c a : UInt8) : (c == a) = decide (a = c) := by rw [Bool.eq_iff_iff, beq_iff_eq, decide_eq_true_eq]; exact eq_comm
theorem occ1 (l : List UInt8) (c : UInt8) (i : Nat) : Lib.occAt l [c] i = decide (l[i]? = some c) := by
  unfold Lib.occAt
  rw [← List.head?_drop]
  cases l.drop i with
  | nil => simp
  | cons a t =>
    simp only [List.isPrefixOf, List.head?_cons, Option.some.injEq, Bool.and_true]
    exact beq_dec c a
theorem occ2 (l : List UInt8) (c d : UInt8) (i : Nat) : Lib.occAt l [c, d] i = (decide (l[i]? = some c) && decide (l[i + 1]? = some d)) := by
  unfold Lib.occAt
  rw [← List.head?_drop, show l[i + 1]? = (l.drop i)[1]? by rw [List.getElem?_drop]]
  cases l.drop i with
  | nil => simp
  | cons a t => cases t with
    | nil => simp [List.isPrefixOf]
    | cons b t =>
      simp only [List.isPrefixOf, List.head?_cons, List.getElem?_cons_succ, List.getElem?_cons_zero, Option.some.injEq, Bool.and_true]
      rw [beq_dec, beq_dec]
theorem cut1_at {l : List UInt8} {c : UInt8} {i : Nat} (h : l[i]? = some c) (hn : ∀ j, j < i → l[j]? ≠ some c) : Lib.cut l [c] = (l.take i, l.drop (i + 1), true) := by
  have hi := (List.getElem?_eq_some_iff.1 h).1
  exact cut_at (by omega) (by rw [occ1]; exact decide_eq_true h) fun j hj => by rw [occ1]; exact decide_eq_false (hn j hj)
/-- a slash in the string: of which kinds it can be -/
theorem slash_mem {l : List UInt8} (h : (slash l).2.2 = true) : (47 : UInt8) ∈ l := by
  rcases cut_cases l [47] with ⟨q, _⟩ | ⟨i, _, ho, _, _⟩
  · unfold slash at h; rw [q] at h; cases h
  · rw [occ1] at ho
    exact List.mem_of_getElem? (of_decide_eq_true ho)
theorem letter_mem {l : List UInt8} (h : letter l = true) : ∀ c ∈ l, isL c = true ∨ c = 37 ∨ c = 115 := by
  unfold letter at h
  simp only [Bool.and_eq_true] at h
  obtain ⟨h1, h2, _⟩ := h
  rcases cut_cases l [37, 115] with ⟨q, _⟩ | ⟨i, hi, ho, _, q⟩
  · unfold pct at h1; rw [q] at h1; cases h1
  · unfold pct at h2
    rw [q] at h2
    simp only [List.all_append, Bool.and_eq_true, List.all_eq_true] at h2
    rw [occ2] at ho
    simp only [Bool.and_eq_true, decide_eq_true_eq] at ho
    intro c hc
    obtain ⟨k, hk, rfl⟩ := List.getElem_of_mem hc
    by_cases k1 : k < i
    · exact .inl (h2.1 _ (List.mem_of_getElem? (i := k) (by rw [List.getElem?_take_of_lt k1, List.getElem?_eq_getElem hk])))
    · by_cases k2 : k = i
      · subst k2
        rw [List.getElem?_eq_getElem hk] at ho
        exact .inr (.inl (Option.some.inj ho.1))
      · by_cases k3 : k = i + 1
        · subst k3
          rw [List.getElem?_eq_getElem hk] at ho
          exact .inr (.inr (Option.some.inj ho.2))
        · refine .inl (h2.2 _ (List.mem_of_getElem? (i := k - (i + 2)) ?_))
          rw [List.getElem?_drop, show i + ([37, 115] : List UInt8).length + (k - (i + 2)) = k by simp only [List.length_cons, List.length_nil]; omega, List.getElem?_eq_getElem hk]
theorem two_eq (l : List UInt8) : two l = ((slash l).2.2 && decide (kind l ≠ 0)) := by
  unfold two
  by_cases hs : (slash l).2.2 = true
  · have hm := slash_mem hs
    have h1 : kind l ≠ 1 := by
      intro h
      have ha : abbr l = true := by
        by_cases q : abbr l = true
        · exact q
        · unfold kind at h
          rw [if_neg q] at h
          repeat' split at h
          all_goals simp at h
      unfold abbr at ha
      simp only [Bool.and_eq_true, List.all_eq_true] at ha
      have := ha.2 _ hm
      revert this; decide
    have h3 : kind l ≠ 3 := by
      intro h
      have ha : letter l = true := by
        by_cases q : letter l = true
        · exact q
        · unfold kind at h
          rw [if_neg (c := letter l = true) q] at h
          repeat' split at h
          all_goals simp at h
      rcases letter_mem ha _ hm with q | q | q
      · revert q; decide
      · revert q; decide
      · revert q; decide
    have h4 : kind l ≠ 4 := by
      intro h
      have ha : l = [37, 122] := by
        by_cases q : l = [37, 122]
        · exact q
        · unfold kind at h
          rw [if_neg (c := l = [37, 122]) q] at h
          repeat' split at h
          all_goals simp at h
      rw [ha] at hm
      revert hm; decide
    rw [hs, Bool.true_and, Bool.true_and]
    rcases kind_cases l with q | q | q | q | q | q <;> rw [q] <;> first | rfl | (exfalso; first | exact h1 q | exact h3 q | exact h4 q)
  · rw [Bool.not_eq_true] at hs
    rw [hs]; rfl
/-- all runes letters: all bytes letters -/
theorem idx_from (s : ByteArray) : ∀ (n pos : Nat), s.size ≤ pos + n → (Lib.idxFuncFrom (fun r => !isLr r) true s n pos = -1 ↔ (s.data.toList.drop pos).all isL = true)
  | 0, pos, h => by
    rw [List.drop_eq_nil_of_le (by rw [← Lib.size_eq]; omega)]
    simp [Lib.idxFuncFrom]
  | n + 1, pos, h => by
    unfold Lib.idxFuncFrom
    by_cases hp : pos < s.size
    · rw [if_pos hp]
      have hl : pos < s.data.toList.length := by rw [← Lib.size_eq]; exact hp
      rw [List.drop_eq_getElem_cons hl, List.all_cons]
      have hbyte : s.data.toList[pos] = s[pos]'hp := by
        have := Lib.data_getElem? s pos hp
        rw [List.getElem?_eq_getElem hl] at this
        exact Option.some.inj this
      rw [hbyte]
      by_cases ha : (s[pos]'hp).toNat < 128
      · rw [decode_ascii s pos hp ha]
        show ((if (!isLr (s[pos]'hp).toNat) = true then (pos : Int) else Lib.idxFuncFrom (fun r => !isLr r) true s n (pos + 1)) = -1) ↔ _
        by_cases hL : isLr (s[pos]'hp).toNat = true
        · rw [if_neg (by rw [hL]; decide), idx_from s n (pos + 1) (by omega)]
          unfold isL at *
          rw [hL, Bool.true_and]
        · rw [Bool.not_eq_true] at hL
          rw [if_pos (by rw [hL]; rfl)]
          unfold isL
          rw [hL, Bool.false_and]
          constructor
          · intro q; omega
          · intro q; cases q
      · have hh := (decode_high s pos hp (by omega)).1
        have hL : isLr (s[pos]'hp).toNat = false := isLr_high (by omega)
        rw [if_pos (by rw [isLr_high hh]; rfl)]
        unfold isL
        rw [hL, Bool.false_and]
        constructor
        · intro q; omega
        · intro q; cases q
    · rw [if_neg hp, List.drop_eq_nil_of_le (by rw [← Lib.size_eq]; omega)]
      simp
theorem idx_all (s : ByteArray) : Lib.idxFunc (fun r => !isLr r) true s = -1 ↔ s.data.toList.all isL = true := by
  have := idx_from s s.size 0 (by omega)
  rwa [List.drop_zero] at this
theorem idx_lt (s : ByteArray) : decide (Lib.idxFunc (fun r => !isLr r) true s < 0) = s.data.toList.all isL := by
  have h := idx_all s
  rcases Lib.idxFuncFrom_range (fun r => !isLr r) true s s.size 0 with q | ⟨q, _⟩
  · have q' : Lib.idxFunc (fun r => !isLr r) true s = -1 := q
    rw [q', h.1 q']; rfl
  · have q' : 0 ≤ Lib.idxFunc (fun r => !isLr r) true s := q
    rw [decide_eq_false (by omega)]
    cases hx : s.data.toList.all isL with
    | false => rfl
    | true => have := h.2 hx; omega
end Go.Proofs.YtlideagcmhlkeaaDoor.P21

/- Plain mathematics of FORMATs (chapter 21): which kind a string of some parts is; no program in sight. -/
namespace Go.Proofs.YtlideagcmhlkeaaDoor.P21
set_option linter.unusedVariables false

/-- a byte of a number -/
def isN (c : UInt8) : Bool := P4.isD c || (c == 43 || c == 45)
theorem two_isD (k : Nat) (hk : k < 100) : ∀ c ∈ P4.two k, P4.isD c = true := by
  intro c hc
  have h1 : (UInt8.ofNat (48 + k / 10)).toNat = 48 + k / 10 := by rw [UInt8.toNat_ofNat']; omega
  have h2 : (UInt8.ofNat (48 + k % 10)).toNat = 48 + k % 10 := by rw [UInt8.toNat_ofNat']; omega
  simp only [P4.two, List.mem_cons, List.not_mem_nil, or_false] at hc
  rcases hc with rfl | rfl
  · simp only [P4.isD, h1, decide_eq_true_eq]; omega
  · simp only [P4.isD, h2, decide_eq_true_eq]; omega
theorem textN_isD (n : Nat) (h : n ≤ 86399) : ∀ c ∈ P20.textN n, P4.isD c = true := by
  intro c hc
  unfold P20.textN at hc
  rw [List.mem_append, List.mem_append] at hc
  rcases hc with (hc | hc) | hc
  · exact two_isD _ (by omega) c hc
  · split at hc
    · simp at hc
    · exact two_isD _ (by omega) c hc
  · split at hc
    · simp at hc
    · exact two_isD _ (by omega) c hc
theorem num_text {l : List UInt8} (h : num l = true) : ∃ y : Int, -86399 ≤ y ∧ y ≤ 86399 ∧ l = P20.text y ∧ P20.parse l = (y, 0) := by
  unfold num at h
  rw [decide_eq_true_eq] at h
  rcases P20.parse_cases l with ⟨y, h1, h2, _, h3, h4⟩ | h1
  · exact ⟨y, h3, h4, h2.symm, h1⟩
  · rw [h1] at h; cases h
theorem num_of_text {y : Int} (h0 : -86399 ≤ y) (h1 : y ≤ 86399) : num (P20.text y) = true := by
  unfold num
  rw [P20.parse_text h0 h1]; rfl
theorem num_head {l : List UInt8} (h : num l = true) : ∃ c t, l = c :: t ∧ (c = 43 ∨ c = 45) ∧ (∀ d ∈ t, P4.isD d = true) ∧ 2 ≤ t.length := by
  obtain ⟨y, h0, h1, rfl, _⟩ := num_text h
  rw [P20.text_in h0 h1]
  refine ⟨_, _, rfl, ?_, textN_isD _ (by omega), ?_⟩
  · split
    · exact .inr rfl
    · exact .inl rfl
  · have := P20.textN_len y.natAbs; omega
theorem num_mem {l : List UInt8} (h : num l = true) : ∀ c ∈ l, isN c = true := by
  obtain ⟨c, t, rfl, hc, ht, _⟩ := num_head h
  intro d hd
  rcases List.mem_cons.1 hd with rfl | hd
  · rcases hc with rfl | rfl <;> decide
  · unfold isN; rw [ht d hd]; rfl
theorem num_no {l : List UInt8} {c : UInt8} (hc : c ∈ l) (h : isN c = false) : num l = false := by
  cases q : num l with
  | false => rfl
  | true => rw [num_mem q c hc] at h; cases h
theorem isL_isN {c : UInt8} (h : isL c = true) : isN c = false := by
  unfold isL isLr at h
  simp only [Bool.or_eq_true, Bool.and_eq_true, decide_eq_true_eq] at h
  have e1 : c ≠ 43 := by rintro rfl; revert h; decide
  have e2 : c ≠ 45 := by rintro rfl; revert h; decide
  unfold isN P4.isD
  rw [decide_eq_false (by omega), beq_eq_false_iff_ne.2 e1, beq_eq_false_iff_ne.2 e2]; rfl
theorem isL_ne {c d : UInt8} (h : isL c = true) (hd : isL d = false) : c ≠ d := by
  rintro rfl; rw [h] at hd; cases hd
theorem abbr_all {l : List UInt8} (h : abbr l = true) : 3 ≤ l.length ∧ l.length ≤ 6 ∧ ∀ c ∈ l, isL c = true := by
  unfold abbr at h
  simp only [Bool.and_eq_true, decide_eq_true_eq, List.all_eq_true] at h
  exact ⟨h.1.1, h.1.2, h.2⟩
theorem abbr_of {l : List UInt8} (h3 : 3 ≤ l.length) (h6 : l.length ≤ 6) (h : ∀ c ∈ l, isL c = true) : abbr l = true := by
  unfold abbr
  rw [decide_eq_true h3, decide_eq_true h6, List.all_eq_true.2 h]; rfl
theorem abbr_no {l : List UInt8} {c : UInt8} (hc : c ∈ l) (h : isL c = false) : abbr l = false := by
  cases q : abbr l with
  | false => rfl
  | true => rw [(abbr_all q).2.2 c hc] at h; cases h
theorem abbr_num {l : List UInt8} (h : abbr l = true) : num l = false := by
  obtain ⟨h3, _, h⟩ := abbr_all h
  cases l with
  | nil => simp at h3
  | cons c t => exact num_no (List.mem_cons_self ..) (isL_isN (h c (List.mem_cons_self ..)))
theorem num_abbr {l : List UInt8} (h : num l = true) : abbr l = false := by
  cases q : abbr l with
  | false => rfl
  | true => rw [abbr_num q] at h; cases h
theorem letter_no {l : List UInt8} {c : UInt8} (hc : c ∈ l) (h : isL c = false) (h1 : c ≠ 37) : letter l = false := by
  cases q : letter l with
  | false => rfl
  | true =>
    rcases letter_mem q c hc with x | x | x
    · rw [x] at h; cases h
    · exact absurd x h1
    · rw [x] at h; revert h; decide
theorem slash_no {l : List UInt8} (h : ∀ c ∈ l, c ≠ 47) : (slash l).2.2 = false := by
  cases q : (slash l).2.2 with
  | false => rfl
  | true => exact absurd rfl (h _ (slash_mem q))
theorem slash_at {a b : List UInt8} (h : ∀ c ∈ a, c ≠ 47) : slash (a ++ 47 :: b) = (a, b, true) := by
  unfold slash
  have := cut1_at (l := a ++ 47 :: b) (c := 47) (i := a.length) (by simp) fun j hj q => by
    rw [List.getElem?_append_left hj] at q
    exact h _ (List.mem_of_getElem? q) rfl
  rw [this, List.take_left, ← List.drop_drop, List.drop_left]; rfl
theorem kind_slash {l a b : List UInt8} (h : slash l = (a, b, true)) : abbr l = false ∧ letter l = false ∧ l ≠ [37, 122] ∧ num l = false := by
  have hm : (47 : UInt8) ∈ l := slash_mem (by rw [h])
  exact ⟨abbr_no hm (by decide), letter_no hm (by decide) (by decide), by rintro rfl; revert hm; decide, num_no hm (by decide)⟩
theorem kind2 {l a b : List UInt8} (h : slash l = (a, b, true)) (ha : abbr a = true) (hb : abbr b = true) : kind l = 2 := by
  obtain ⟨h1, _⟩ := kind_slash h
  unfold kind; rw [if_neg (by rw [h1]; decide), if_pos (by rw [h, ha, hb]; rfl)]
theorem kind5s {l a b : List UInt8} (h : slash l = (a, b, true)) (ha : num a = true) (hb : num b = true) : kind l = 5 := by
  obtain ⟨h1, h2, h3, h4⟩ := kind_slash h
  unfold kind
  rw [if_neg (by rw [h1]; decide), if_neg (by rw [h, num_abbr ha]; simp), if_neg (by rw [h2]; decide), if_neg h3, if_pos (by rw [h, ha, hb]; simp)]
theorem kind5 {l : List UInt8} (h : num l = true) : kind l = 5 := by
  have h1 := num_abbr h
  have h2 : (slash l).2.2 = false := slash_no fun c hc => by
    rintro rfl
    have := num_mem h _ hc
    revert this; decide
  obtain ⟨c, t, rfl, hc, _⟩ := num_head h
  have h3 : letter (c :: t) = false := letter_no (List.mem_cons_self ..) (by rcases hc with rfl | rfl <;> decide) (by rcases hc with rfl | rfl <;> decide)
  unfold kind
  rw [if_neg (by rw [h1]; decide), if_neg (by rw [h2]; simp), if_neg (by rw [h3]; decide), if_neg (by rintro q; rw [List.cons.injEq] at q; rcases hc with rfl | rfl <;> exact absurd q.1 (by decide)), if_pos (by rw [h]; rfl)]
/-- kinds taken apart -/
theorem kind_is5 {l : List UInt8} (h : kind l = 5) : num l = true ∨ ∃ a b, slash l = (a, b, true) ∧ num a = true ∧ num b = true := by
  unfold kind at h
  repeat' split at h
  all_goals try (exfalso; revert h; decide)
  rename_i q
  simp only [Bool.or_eq_true, Bool.and_eq_true] at q
  rcases q with q | q
  · exact .inl q
  · refine .inr ⟨(slash l).1, (slash l).2.1, ?_, q.1.2, q.2⟩
    rw [← q.1.1]
theorem kind_is2 {l : List UInt8} (h : kind l = 2) : ∃ a b, slash l = (a, b, true) ∧ abbr a = true ∧ abbr b = true := by
  unfold kind at h
  repeat' split at h
  all_goals try (exfalso; revert h; decide)
  rename_i q
  simp only [Bool.and_eq_true] at q
  refine ⟨(slash l).1, (slash l).2.1, ?_, q.1.2, q.2⟩
  rw [← q.1.1]
/-- what is cut is put together again -/
theorem slash_join {l a b : List UInt8} (h : slash l = (a, b, true)) : l = a ++ 47 :: b := by
  unfold slash at h
  rcases cut_cases l [47] with ⟨q, _⟩ | ⟨i, hi, ho, _, q⟩
  · rw [q] at h; simp at h
  · rw [q] at h
    injection h with h1 h2
    injection h2 with h2 h3
    rw [occ1] at ho
    have ho := of_decide_eq_true ho
    obtain ⟨hl, hx⟩ := List.getElem?_eq_some_iff.1 ho
    rw [← h1, ← h2]
    conv => lhs; rw [← List.take_append_drop i l, List.drop_eq_getElem_cons hl, hx]
    rfl
/-- concrete strings -/
theorem kind_z : kind [37, 122] = 4 := by decide +kernel
end Go.Proofs.YtlideagcmhlkeaaDoor.P21

/- Small lemmas for walks: draws, quiet calls, strings. No function of the program. -/
namespace Go.Proofs.YtlideagcmhlkeaaDoor
open Go.RowKit

/-- the call only drew -/
def Q (w w' : World) : Prop := ∃ n, w' = w.drewN n
theorem Q.refl (w : World) : Q w w := ⟨0, rfl⟩
theorem Q.drewN (w : World) (n : Nat) : Q w (w.drewN n) := ⟨n, rfl⟩
theorem Q.below {w w' : World} (h : Q w w') (B : Nat) : Below B w w' := by
  obtain ⟨n, rfl⟩ := h
  exact ⟨rfl, rfl, rfl, Nat.le_refl _, fun _ _ => rfl⟩
theorem below_drewN {B : Nat} {a w : World} (h : Below B a w) (n : Nat) : Below B a (w.drewN n) := ⟨h.os, h.tape, h.output, h.size, h.block⟩
/-- a string of bytes, behind a name of its own -/
def str (l : List UInt8) : ByteArray := ⟨l.toArray⟩
theorem str_append (a b : List UInt8) : str a ++ str b = str (a ++ b) := by
  apply ByteArray.ext
  simp [str, ByteArray.data_append]
theorem str_data (l : List UInt8) : (str l).data.toList = l := rfl
theorem str_size (l : List UInt8) : (str l).size = l.length := rfl
theorem str_bl (s : ByteArray) : str s.data.toList = s := rfl
end Go.Proofs.YtlideagcmhlkeaaDoor

/- Blocks that are known whole. No function of the program. -/
namespace Go.Proofs.YtlideagcmhlkeaaDoor
open Go.RowKit
set_option linter.unusedVariables false

/-- block g is just these cells, none of them frozen -/
def Blk (w : World) (g : Nat) (t : TypeId) (cs : Array Value) : Prop := w.heap[g]? = some (.cells cs t (0, 0))
section
variable {w w' : World} {g : Nat} {t : TypeId} {cs : Array Value}
theorem Blk.lt (h : Blk w g t cs) : g < w.heap.size := by
  rcases Nat.lt_or_ge g w.heap.size with hlt | hge
  · exact hlt
  · unfold Blk at h; rw [Array.getElem?_eq_none hge] at h; cases h
theorem Blk.cell (h : Blk w g t cs) (i : Nat) : w.cell? ⟨g, i, none⟩ = cs[i]? := cell_of_row w g i cs t (0, 0) h
theorem Blk.below {B : Nat} (h : Blk w g t cs) (hb : Below B w w') (hg : g < B) : Blk w' g t cs := (hb.block g hg).trans h
theorem Blk.alloc (h : Blk w g t cs) (o : Obj) : Blk (w.alloc o) g t cs := (Below.heap_alloc w o g h.lt).trans h
end
theorem Blk.new (w : World) (t : TypeId) (cs : Array Value) : Blk (w.alloc (.cells cs t)) w.heap.size t cs := heap_alloc_new w _
theorem Blk.newAt (w : World) (n : Nat) (h : w.heap.size = n) (t : TypeId) (cs : Array Value) : Blk (w.alloc (.cells cs t)) n t cs := h ▸ Blk.new w t cs
theorem Blk.frozen {w : World} {g : Nat} {t : TypeId} {cs : Array Value} (h : Blk w g t cs) (i : Nat) : w.frozen? ⟨g, i, none⟩ = false := by
  unfold Blk at h
  simp [World.frozen?, h]
theorem Blk.set_ {w : World} {g : Nat} {t : TypeId} {cs : Array Value} (h : Blk w g t cs) (i : Nat) (u : Value) : Blk (w.setCell ⟨g, i, none⟩ u) g t (cs.setIfInBounds i u) := by
  unfold Blk at h ⊢
  simp [World.setCell, Array.getElem?_modify, h]
theorem Blk.far {w : World} {g : Nat} {t : TypeId} {cs : Array Value} (h : Blk w g t cs) {p : Addr} (hp : g ≠ p.block) (u : Value) : Blk (w.setCell p u) g t cs := (Below.heap_setCell w p u g hp).trans h
theorem Blk.drewN {w : World} {g : Nat} {t : TypeId} {cs : Array Value} (h : Blk w g t cs) (n : Nat) : Blk (w.drewN n) g t cs := h
theorem Blk.q {w w' : World} {g : Nat} {t : TypeId} {cs : Array Value} (h : Blk w g t cs) (hq : Q w w') : Blk w' g t cs := by
  obtain ⟨n, rfl⟩ := hq
  exact h
end Go.Proofs.YtlideagcmhlkeaaDoor

/- Rows of the call's own: made, opened, kept; bytes in a row as a list; their string. No function of the program. -/
namespace Go.Proofs.YtlideagcmhlkeaaDoor
open Go.RowKit
set_option linter.unusedVariables false

theorem add_zero_off (B j : Nat) : (⟨B, 0, none⟩ : Addr).add j = ⟨B, j, none⟩ := by unfold Addr.add; split <;> simp_all
theorem blk_cells {w : World} {B : Nat} {e : TypeId} {cs : Array Value} (h : Blk w B e cs) : ∀ (j : Nat) u, cs.toList[j]? = some u → w.cell? ((⟨B, 0, none⟩ : Addr).add j) = some u := by
  intro j u hu
  rw [add_zero_off, h.cell j, ← Array.getElem?_toList]
  exact hu
theorem own_new {w : World} {base B : Nat} {e : TypeId} {cs : Array Value} (size n : Nat) (h : Blk w B e cs) (hb : base ≤ B) (hn : cs.size = n * size) (hm : n ≤ maxLen) : w.ownsRow base e size (.slice (some ⟨B, 0, none⟩) n n) n cs.toList :=
  ⟨by rw [Array.length_toList, hn], .inr ⟨B, n, cs, rfl, hb, h, Nat.le_refl _, hm, hn, by rw [List.take_of_length_le (by rw [Array.length_toList, hn]; exact Nat.le_refl _)]⟩⟩
theorem own_form {w : World} {base n size : Nat} {e : TypeId} {v : Value} {xs : List Value} (h : w.ownsRow base e size v n xs) (hn : 0 < n) :
    ∃ B cap, v = .slice (some ⟨B, 0, none⟩) n cap ∧ base ≤ B ∧ B < w.heap.size ∧ n ≤ cap ∧ ∀ k u, xs[k]? = some u → w.cell? ⟨B, k, none⟩ = some u := by
  have hc := fun g hg => h.cells (g := g) hg
  have hl := h.lt
  rcases h.2 with ⟨_, q⟩ | ⟨g, cap, cur, rfl, hg, hh, hcap, _⟩
  · omega
  · refine ⟨g, cap, rfl, hg, (hl g rfl).2, hcap, fun k u hu => ?_⟩
    have := hc g rfl k u hu
    rwa [add_zero_off] at this
theorem own_below {w w' : World} {base n size : Nat} {e : TypeId} {v : Value} {xs : List Value} (h : w.ownsRow base e size v n xs) (hb : Below w.heap.size w w') : w'.ownsRow base e size v n xs := by
  refine ⟨h.1, ?_⟩
  rcases h.2 with q | ⟨g, cap, cur, hv, hg, hh, q⟩
  · exact .inl q
  · refine .inr ⟨g, cap, cur, hv, hg, ?_, q⟩
    rw [hb.block g (h.lt g (by rw [hv]; rfl)).2]; exact hh
/-- an append to a row of the call's own: what lay below still stands -/
theorem own_grown {a w w' : World} {base B n size : Nat} {e : TypeId} {v : Value} {xs : List Value} (hb : Below B a w) (h : w.ownsRow base e size v n xs) (hg : w.grownBy w' v.ownBlock) (hB : B ≤ w.heap.size) (hBb : B ≤ base) : Below B a w' :=
  hb.grown hg hB fun k hk => Nat.le_trans hBb (h.lt k hk).1
theorem blk_grown {w w' : World} {base g n size : Nat} {e t : TypeId} {v : Value} {xs : List Value} {cs : Array Value} (hB : Blk w g t cs) (h : w.ownsRow base e size v n xs) (hg : w.grownBy w' v.ownBlock) (hlt : g < base) : Blk w' g t cs :=
  (hg.block g hB.lt fun q => by have := (h.lt g q.symm).1; omega).trans hB
/-- bytes as values -/
def bvs (l : List UInt8) : List Value := l.map fun c => .int .u8 (c.toNat : Int)
theorem bvs_len (l : List UInt8) : (bvs l).length = l.length := List.length_map _
theorem bvs_append (a b : List UInt8) : bvs (a ++ b) = bvs a ++ bvs b := List.map_append
theorem push_all (l : List UInt8) : ∀ r : ByteArray, (l.map fun c => (c.toNat : Int)).foldl (fun r n => r.push (UInt8.ofNat n.toNat)) r = r ++ str l := by
  induction l with
  | nil => intro r; rw [show str [] = ByteArray.empty from rfl]; exact ByteArray.append_empty.symm
  | cons c l ih =>
    intro r
    rw [List.map_cons, List.foldl_cons, ih]
    apply ByteArray.ext
    simp [str, ByteArray.data_append]
theorem bytes_str {P : Program} (W : World) (B n cap : Nat) (l : List UInt8) (hn : n = l.length) (h : ∀ k u, (bvs l)[k]? = some u → W.cell? ⟨B, k, none⟩ = some u) :
    (Conv.bytesToString (.slice (some ⟨B, 0, none⟩) n cap)).run P W = .ok (.string (str l)) W := by
  have hr : (loadCells ⟨B, 0, none⟩ n).run P W = .ok ((l.map fun c => (c.toNat : Int)).map (Value.int .u8)).toArray W := by
    have q := run_loadCells_list (P := P) (w := W) ⟨B, 0, none⟩ (bvs l) (fun j u hu => by rw [add_zero_off]; exact h j u hu)
    rw [bvs_len, ← hn] at q
    rw [q, List.map_map]; rfl
  rw [run_bytesToString W _ _ _ _ hr, push_all]
  rw [ByteArray.empty_append]
theorem conv_own {P : Program} {T S E : TypeId} (hT : P.underlying T = some (.slice E)) (hE : P.underlying E = some (.int .u8)) (hS : P.underlying S = some .string) (W : World) (B n cap : Nat) (l : List UInt8) (hn : n = l.length)
    (h : ∀ k u, (bvs l)[k]? = some u → W.cell? ⟨B, k, none⟩ = some u) : (convert T S (.slice (some ⟨B, 0, none⟩) n cap)).run P W = .ok (.string (str l)) W := by
  rw [run_convert_bytes_string W T S E _ _ _ hT hE hS]
  exact bytes_str W B n cap l hn h
end Go.Proofs.YtlideagcmhlkeaaDoor

/- Plain facts for the walk of numeric.Text (chapter 20): the parts of an amount, how many are written. -/
namespace Go.Proofs.YtlideagcmhlkeaaDoor.P20
set_option linter.unusedVariables false
open Go.Proofs.YtlideagcmhlkeaaDoor

def PL (n : Nat) : List Nat := [n / 3600, n / 60 % 60, n % 60]
def KN (n : Nat) : Nat := if n % 60 ≠ 0 then 3 else if n / 60 % 60 ≠ 0 then 2 else 1
def flat (n k : Nat) : List UInt8 := ((PL n).take k).flatMap P4.two
theorem KN_bd (n : Nat) : 1 ≤ KN n ∧ KN n ≤ 3 := by unfold KN; split <;> (try split) <;> omega
theorem flat_step (n k p : Nat) (h : (PL n)[k]? = some p) : flat n (k + 1) = flat n k ++ P4.two p := by
  unfold flat
  rw [List.take_add_one, h]
  simp
theorem flat_len (n k : Nat) (h : k ≤ 3) : (flat n k).length = 2 * k := by
  match k, h with
  | 0, _ => rfl
  | 1, _ => rfl
  | 2, _ => rfl
  | 3, _ => rfl
theorem flat_all (n : Nat) : flat n (KN n) = textN n := by
  unfold KN textN
  by_cases h : n % 60 = 0
  · rw [if_neg (by omega), if_pos h]
    by_cases h' : n / 60 % 60 = 0
    · rw [if_neg (by omega), if_pos (by omega)]; simp [flat, PL]
    · rw [if_pos h', if_neg (by omega)]; simp [flat, PL]
  · rw [if_pos h, if_neg h, if_neg (by omega)]; simp [flat, PL]
theorem PL_at (n k : Nat) (hn : n ≤ 86399) (hk : k < 3) : ∃ p, (PL n)[k]? = some p ∧ p < 100 := by
  match k, hk with
  | 0, _ => exact ⟨_, rfl, by omega⟩
  | 1, _ => exact ⟨_, rfl, by omega⟩
  | 2, _ => exact ⟨_, rfl, by omega⟩
def arrP (n : Nat) : Array Value := ((PL n).map fun p : Nat => Value.int .i64 (p : Int)).toArray
theorem arrP_eq (n : Nat) : arrP n = #[.int .i64 ((n : Int) / 3600), .int .i64 ((n : Int) / 60 % 60), .int .i64 ((n : Int) % 60)] := rfl
theorem arrP_at (n k p : Nat) (h : (PL n)[k]? = some p) : (arrP n)[k]? = some (.int .i64 (p : Int)) := by
  unfold arrP
  rw [List.getElem?_toArray, List.getElem?_map, h]; rfl
theorem KN_last (n : Nat) (h : KN n ≠ 1) : ∃ p, (PL n)[KN n - 1]? = some p ∧ p ≠ 0 := by
  unfold KN at h ⊢
  by_cases h1 : n % 60 = 0
  · rw [if_neg (by omega)] at h ⊢
    by_cases h2 : n / 60 % 60 = 0
    · rw [if_neg (by omega)] at h; exact absurd rfl h
    · rw [if_pos h2]; exact ⟨_, rfl, h2⟩
  · rw [if_pos h1]; exact ⟨_, rfl, h1⟩
theorem KN_zero (n k : Nat) (h : KN n < k) (h3 : k ≤ 3) : (PL n)[k - 1]? = some 0 := by
  unfold KN at h
  by_cases h1 : n % 60 = 0
  · rw [if_neg (by omega)] at h
    by_cases h2 : n / 60 % 60 = 0
    · rw [if_neg (by omega)] at h
      rcases (by omega : k = 2 ∨ k = 3) with rfl | rfl
      · exact congrArg some h2
      · exact congrArg some h1
    · rw [if_pos h2] at h
      obtain rfl : k = 3 := by omega
      exact congrArg some h1
  · rw [if_pos h1] at h; omega
theorem two_bvs (p : Nat) (hp : p < 100) : bvs (P4.two p) = [.int .u8 (48 + (p : Int) / 10), .int .u8 (48 + (p : Int) % 10)] := by
  have h1 : (UInt8.ofNat (48 + p / 10)).toNat = 48 + p / 10 := by rw [UInt8.toNat_ofNat']; omega
  have h2 : (UInt8.ofNat (48 + p % 10)).toNat = 48 + p % 10 := by rw [UInt8.toNat_ofNat']; omega
  simp only [bvs, P4.two, List.map_cons, List.map_nil, h1, h2]
  rfl
end Go.Proofs.YtlideagcmhlkeaaDoor.P20

/- The walk of numeric.Text (chapter 20). -/
namespace Go.Proofs.YtlideagcmhlkeaaDoor
open Go.RowKit
set_option linter.unusedVariables false

theorem infoU8 : (Tryd.prog.info? 5).map (fun i => (i.zero, i.size, i.bytes)) = some (some (.int .u8 0), 1, 1) := by kernel_rfl
set_option maxRecDepth 100000 in
set_option maxHeartbeats 4000000 in
theorem ntext_in (sg : UInt8) (x : Int) (n : Nat) (w : World) (hn : n ≤ 86399) (hx : (x = n ∧ sg = 43) ∨ (x < 0 ∧ x = -(n : Int) ∧ sg = 45)) :
    Calls Tryd.prog 24 #[.int .i64 x] w fun e w' => e = .returned (.string (str (sg :: P20.textN n))) ∧ Below w.heap.size w w' := by
  have hni : (n : Int) ≤ 86399 := by omega
  have hbd := P20.KN_bd n
  have hcv := fun W B cap l hl h => conv_own (P := Tryd.prog) Tryd.underlying24 Tryd.underlying5 Tryd.underlying9 W B (1 + 2 * P20.KN n) cap l hl h
  have HCV := Lib.hid hcv
  clear hcv
  go_enter Tryd.func24, Tryd.ntmps24
  go_wp2_with fail
  go_step3
  go_upto_if 16 with (fail)
  go_cut [0, 3] (fun s0 s3 wx => s0 = .int .i64 (n : Int) ∧ s3 = .int .u8 (sg.toNat : Int) ∧ w = wx)
  case first =>
    rcases hx with ⟨rfl, rfl⟩ | ⟨hneg, rfl, rfl⟩
    · go_wp2_with fail
      go_meet
      exact ⟨rfl, rfl, rfl⟩
    · go_wp2_with fail
      go_meet
      exact ⟨by simp, rfl, rfl⟩
  case rest =>
    obtain ⟨rfl, rfl, rfl⟩ := hcut
    clear hx
    have hP := Blk.new w 114 (P20.arrP n)
    rw [P20.arrP_eq] at hP
    have hb0 : Below w.heap.size w (w.alloc (.cells #[.int .i64 ((n : Int) / 3600), .int .i64 ((n : Int) / 60 % 60), .int .i64 ((n : Int) % 60)] 114)) := (Below.refl _ _).alloc (Nat.le_refl _) _
    go_wp2_with fail
    go_step3
    go_wp2_with fail
    go_loop [5] (fun s5 => ∃ k : Nat, s5 = .int .i64 (k : Int) ∧ P20.KN n ≤ k ∧ k ≤ 3) (fun s5 => (intOf s5).toNat)
    case atStart => exact ⟨3, rfl, hbd.2, Nat.le_refl _⟩
    case round =>
      obtain ⟨k, rfl, hk0, hk3⟩ := hrel
      by_cases hkK : k = P20.KN n
      · subst hkK
        by_cases h1 : P20.KN n = 1
        · have hle : (P20.KN n : Int) ≤ 1 := by omega
          clear h1
          go_wp2_with fail
          clear hk0 hk3
          have hO := own_new 1 1 (Blk.newAt (w.alloc (.cells #[.int .i64 ((n : Int) / 3600), .int .i64 ((n : Int) / 60 % 60), .int .i64 ((n : Int) % 60)] 114)) (w.heap.size + 1) (by simp) 5 #[.int .u8 (sg.toNat : Int)]) (Nat.le_refl (w.heap.size + 1)) rfl (by decide)
          have hP1 := hP.alloc (.cells #[.int .u8 (sg.toNat : Int)] 5)
          have hb1 := hb0.alloc hb0.size (.cells #[.int .u8 (sg.toNat : Int)] 5)
          have hKi0 : (0 : Int) ≤ (P20.KN n : Int) := by omega
          have hKi3 : (P20.KN n : Int) ≤ 3 := by omega
          have HK := Lib.hid (P20.flat_all n)
          have HPL := fun k hk => P20.PL_at n k hn hk
          have HPL' := Lib.hid HPL
          clear HPL hP hb0
          generalize P20.KN n = K at hKi0 hKi3 HK HCV ⊢
          go_wp2_with fail
          go_loopw [6, 42] (fun v i wr => ∃ k : Nat, k ≤ K ∧ i = .int .i64 k ∧ wr.ownsRow (w.heap.size + 1) 5 1 v (1 + 2 * k) (bvs (sg :: P20.flat n k)) ∧ Blk wr w.heap.size 114 (P20.arrP n) ∧ Below w.heap.size w wr) (fun _ i _ => K - (intOf i).toNat)
          case atStart => exact ⟨0, Nat.zero_le _, rfl, hO, hP1, hb1⟩
          case round =>
            clear hO hP1 hb1
            obtain ⟨k, hkK, rfl, hO, hP, hb⟩ := hrel
            by_cases hlt : k < K
            · have hlti : (k : Int) < (K : Int) := by omega
              obtain ⟨p, hp, hp100⟩ := HPL'.out k (by omega)
              have c0 : wr.cell? ⟨w.heap.size, k, none⟩ = some (.int .i64 (p : Int)) := (hP.cell k).trans (P20.arrP_at n k p hp)
              have HS := Lib.hid (P20.flat_step n k p hp)
              have hpi : (p : Int) ≤ 99 := by omega
              have hNB : Hid (Blk (wr.alloc (.cells #[.int .u8 (48 + (p : Int) / 10), .int .u8 (48 + (p : Int) % 10)] 5)) wr.heap.size 5 #[.int .u8 (48 + (p : Int) / 10), .int .u8 (48 + (p : Int) % 10)]) := Lib.hid (Blk.new _ _ _)
              have hTB := Lib.hid (P20.two_bvs p hp100)
              have HO := Lib.hid (hO.alloc (.cells #[.int .u8 (48 + (p : Int) / 10), .int .u8 (48 + (p : Int) % 10)] 5))
              have HP := Lib.hid (hP.alloc (.cells #[.int .u8 (48 + (p : Int) / 10), .int .u8 (48 + (p : Int) % 10)] 5))
              have HB := Lib.hid (hb.alloc hb.size (.cells #[.int .u8 (48 + (p : Int) / 10), .int .u8 (48 + (p : Int) % 10)] 5))
              have HZ := Lib.hid (show w.heap.size + 1 ≤ (wr.alloc (.cells #[.int .u8 (48 + (p : Int) / 10), .int .u8 (48 + (p : Int) % 10)] 5)).heap.size from Nat.succ_le_of_lt HP.out.lt)
              have hkb : 1 + 2 * k ≤ 7 := by omega
              have HKB := Lib.hid hkb
              obtain ⟨i0, hi, hz0, hz1, hz2⟩ := info_parts infoU8
              clear hO hP hb hp hp100 hkb
              go_wp2_with (at_builtin; refine wpList_append_own _ rfl _ _ 24 rfl (w.heap.size + 1) 5 i0 (.int .u8 0) 1 1 Tryd.underlying24 hi hz0 hz1 hz2 rfl (by decide) _ _ _ rfl HO.out ⟨wr.heap.size, 0, none⟩ 2 2 [.int .u8 (48 + (p : Int) / 10), .int .u8 (48 + (p : Int) % 10)] rfl rfl (blk_cells hNB.out) (by simp [Value.oneCell']) (by have := HKB.out; simp only [maxLen]; omega) (by have := HKB.out; omega) HZ.out ?_)
              intro v1 wa hown hgr hne
              have hb2 := own_grown HB.out HO.out hgr HB.out.size (Nat.le_succ _)
              have hP2 := blk_grown HP.out HO.out hgr (Nat.lt_succ_self _)
              have hO2 : wa.ownsRow (w.heap.size + 1) 5 1 v1 (1 + 2 * (k + 1)) (bvs (sg :: P20.flat n (k + 1))) := by
                rw [HS.out, ← List.cons_append, bvs_append, hTB.out]; exact hown
              clear hown hgr hne HO HP HB HZ hNB hTB HS HKB
              go_wp2_with fail
              go_roundw
              case rel => exact ⟨k + 1, by omega, by go_num, hO2, hP2, hb2⟩
              case measure => simp [intOf]; omega
            · obtain rfl : k = K := by omega
              obtain ⟨B, cap, rfl, hB0, hB1, hcap, hcs⟩ := own_form hO (by omega)
              have hr := HCV.out wr B cap (sg :: P20.flat n k) (by rw [List.length_cons, P20.flat_len n k (by omega)]; omega) hcs
              rw [HK.out] at hr
              clear hcs hO hP
              go_wp2_with fail
              try rw [Exit.noGoto_ret]
              go_ret
              exact ⟨rfl, hb⟩
        · have hgt : (1 : Int) < (P20.KN n : Int) := by omega
          obtain ⟨p, hp, hpz⟩ := P20.KN_last n h1
          have c0 : (w.alloc (.cells #[.int .i64 ((n : Int) / 3600), .int .i64 ((n : Int) / 60 % 60), .int .i64 ((n : Int) % 60)] 114)).cell? ⟨w.heap.size, P20.KN n - 1, none⟩ = some (.int .i64 (p : Int)) := (hP.cell _).trans (P20.arrP_at n _ p hp)
          have hpq : ((p : Int) == 0) = false := by rw [beq_eq_false_iff_ne]; omega
          clear h1 hp hpz
          go_wp2_with fail
          clear hk0 hk3
          have hO := own_new 1 1 (Blk.newAt (w.alloc (.cells #[.int .i64 ((n : Int) / 3600), .int .i64 ((n : Int) / 60 % 60), .int .i64 ((n : Int) % 60)] 114)) (w.heap.size + 1) (by simp) 5 #[.int .u8 (sg.toNat : Int)]) (Nat.le_refl (w.heap.size + 1)) rfl (by decide)
          have hP1 := hP.alloc (.cells #[.int .u8 (sg.toNat : Int)] 5)
          have hb1 := hb0.alloc hb0.size (.cells #[.int .u8 (sg.toNat : Int)] 5)
          have hKi0 : (0 : Int) ≤ (P20.KN n : Int) := by omega
          have hKi3 : (P20.KN n : Int) ≤ 3 := by omega
          have HK := Lib.hid (P20.flat_all n)
          have HPL := fun k hk => P20.PL_at n k hn hk
          have HPL' := Lib.hid HPL
          clear HPL hP hb0
          generalize P20.KN n = K at hKi0 hKi3 HK HCV ⊢
          go_wp2_with fail
          go_loopw [6, 42] (fun v i wr => ∃ k : Nat, k ≤ K ∧ i = .int .i64 k ∧ wr.ownsRow (w.heap.size + 1) 5 1 v (1 + 2 * k) (bvs (sg :: P20.flat n k)) ∧ Blk wr w.heap.size 114 (P20.arrP n) ∧ Below w.heap.size w wr) (fun _ i _ => K - (intOf i).toNat)
          case atStart => exact ⟨0, Nat.zero_le _, rfl, hO, hP1, hb1⟩
          case round =>
            clear hO hP1 hb1
            obtain ⟨k, hkK, rfl, hO, hP, hb⟩ := hrel
            by_cases hlt : k < K
            · have hlti : (k : Int) < (K : Int) := by omega
              obtain ⟨p, hp, hp100⟩ := HPL'.out k (by omega)
              have c0 : wr.cell? ⟨w.heap.size, k, none⟩ = some (.int .i64 (p : Int)) := (hP.cell k).trans (P20.arrP_at n k p hp)
              have HS := Lib.hid (P20.flat_step n k p hp)
              have hpi : (p : Int) ≤ 99 := by omega
              have hNB : Hid (Blk (wr.alloc (.cells #[.int .u8 (48 + (p : Int) / 10), .int .u8 (48 + (p : Int) % 10)] 5)) wr.heap.size 5 #[.int .u8 (48 + (p : Int) / 10), .int .u8 (48 + (p : Int) % 10)]) := Lib.hid (Blk.new _ _ _)
              have hTB := Lib.hid (P20.two_bvs p hp100)
              have HO := Lib.hid (hO.alloc (.cells #[.int .u8 (48 + (p : Int) / 10), .int .u8 (48 + (p : Int) % 10)] 5))
              have HP := Lib.hid (hP.alloc (.cells #[.int .u8 (48 + (p : Int) / 10), .int .u8 (48 + (p : Int) % 10)] 5))
              have HB := Lib.hid (hb.alloc hb.size (.cells #[.int .u8 (48 + (p : Int) / 10), .int .u8 (48 + (p : Int) % 10)] 5))
              have HZ := Lib.hid (show w.heap.size + 1 ≤ (wr.alloc (.cells #[.int .u8 (48 + (p : Int) / 10), .int .u8 (48 + (p : Int) % 10)] 5)).heap.size from Nat.succ_le_of_lt HP.out.lt)
              have hkb : 1 + 2 * k ≤ 7 := by omega
              have HKB := Lib.hid hkb
              obtain ⟨i0, hi, hz0, hz1, hz2⟩ := info_parts infoU8
              clear hO hP hb hp hp100 hkb
              go_wp2_with (at_builtin; refine wpList_append_own _ rfl _ _ 24 rfl (w.heap.size + 1) 5 i0 (.int .u8 0) 1 1 Tryd.underlying24 hi hz0 hz1 hz2 rfl (by decide) _ _ _ rfl HO.out ⟨wr.heap.size, 0, none⟩ 2 2 [.int .u8 (48 + (p : Int) / 10), .int .u8 (48 + (p : Int) % 10)] rfl rfl (blk_cells hNB.out) (by simp [Value.oneCell']) (by have := HKB.out; simp only [maxLen]; omega) (by have := HKB.out; omega) HZ.out ?_)
              intro v1 wa hown hgr hne
              have hb2 := own_grown HB.out HO.out hgr HB.out.size (Nat.le_succ _)
              have hP2 := blk_grown HP.out HO.out hgr (Nat.lt_succ_self _)
              have hO2 : wa.ownsRow (w.heap.size + 1) 5 1 v1 (1 + 2 * (k + 1)) (bvs (sg :: P20.flat n (k + 1))) := by
                rw [HS.out, ← List.cons_append, bvs_append, hTB.out]; exact hown
              clear hown hgr hne HO HP HB HZ hNB hTB HS HKB
              go_wp2_with fail
              go_roundw
              case rel => exact ⟨k + 1, by omega, by go_num, hO2, hP2, hb2⟩
              case measure => simp [intOf]; omega
            · obtain rfl : k = K := by omega
              obtain ⟨B, cap, rfl, hB0, hB1, hcap, hcs⟩ := own_form hO (by omega)
              have hr := HCV.out wr B cap (sg :: P20.flat n k) (by rw [List.length_cons, P20.flat_len n k (by omega)]; omega) hcs
              rw [HK.out] at hr
              clear hcs hO hP
              go_wp2_with fail
              try rw [Exit.noGoto_ret]
              go_ret
              exact ⟨rfl, hb⟩
      · have hgt : (1 : Int) < (k : Int) := by omega
        have hp := P20.KN_zero n k (by omega) hk3
        have c0 : (w.alloc (.cells #[.int .i64 ((n : Int) / 3600), .int .i64 ((n : Int) / 60 % 60), .int .i64 ((n : Int) % 60)] 114)).cell? ⟨w.heap.size, k - 1, none⟩ = some (.int .i64 0) := (hP.cell _).trans (P20.arrP_at n _ 0 hp)
        clear hp
        go_wp2_with fail
        go_round
        case rel => exact ⟨k - 1, by rw [show ((k - 1 : Nat) : Int) = (k : Int) - 1 by omega], by omega, by omega⟩
        case measure => simp [intOf]; omega
end Go.Proofs.YtlideagcmhlkeaaDoor

/- Plain facts for the walks of numeric.Parse and of the reference's Parse (chapter 20). -/
namespace Go.Proofs.YtlideagcmhlkeaaDoor.P20
open Go.Proofs.YtlideagcmhlkeaaDoor
set_option linter.unusedVariables false

theorem bl_extract (s : ByteArray) (i j : Nat) : P4.bl (s.extract i j) = ((P4.bl s).take j).drop i := by
  simp [P4.bl, ByteArray.data_extract, Array.toList_extract, List.drop_take]
theorem chunk_bl (s : ByteArray) (i j : Nat) (hj : j = i + 2 ∨ (j = s.size ∧ s.size ≤ i + 2)) : P4.bl (s.extract i j) = ((P4.bl s).drop i).take 2 := by
  rw [bl_extract, List.drop_take]
  rcases hj with rfl | ⟨rfl, h⟩
  · rw [Nat.add_sub_cancel_left]
  · have hl := P4.bl_len s
    rw [List.take_of_length_le (by rw [List.length_drop]; omega), List.take_of_length_le (by rw [List.length_drop]; omega)]
/-- strconv.ParseUint of one or two bytes: a number, or what is answered at no byte at all -/
theorem uint8_cases (c : List UInt8) (h : c.length = 1 ∨ c.length = 2) : (∃ u : Nat, Lib.parseUintB 8 c = .ok u ∧ chunk false c = some (u : Int) ∧ u ≤ 99) ∨ (Lib.parseUintB 8 c = Lib.parseUintB 8 [] ∧ chunk false c = none) := by
  match c, h with
  | [a], _ =>
    by_cases ha : 48 ≤ a.toNat ∧ a.toNat ≤ 57
    · refine .inl ⟨a.toNat - 48, ?_, ?_, by omega⟩
      · rw [Lib.parseUintB, if_neg (by simp), Lib.parseUintM, if_pos ha, if_neg (by omega), if_neg (by omega), Lib.parseUintM]
        exact congrArg _ (by omega)
      · unfold chunk
        rw [if_pos ⟨by simp [P4.isD]; exact ha, fun q => by cases q⟩]
        simp only [P4.val, P4.valFrom]
        exact congrArg some (by omega)
    · refine .inr ⟨?_, ?_⟩
      · rw [Lib.parseUintB, if_neg (by simp), Lib.parseUintM, if_neg ha]; rfl
      · unfold chunk
        exact if_neg fun q => ha (by simpa [P4.isD] using q.1)
  | [a, b], _ =>
    by_cases ha : 48 ≤ a.toNat ∧ a.toNat ≤ 57
    · by_cases hb : 48 ≤ b.toNat ∧ b.toNat ≤ 57
      · refine .inl ⟨(a.toNat - 48) * 10 + (b.toNat - 48), ?_, ?_, by omega⟩
        · rw [Lib.parseUintB, if_neg (by simp), Lib.parseUintM, if_pos ha, if_neg (by omega), if_neg (by omega), Lib.parseUintM, if_pos hb, if_neg (by omega), if_neg (by omega), Lib.parseUintM]
          exact congrArg _ (by omega)
        · unfold chunk
          rw [if_pos ⟨by simp [P4.isD]; omega, fun q => by cases q⟩]
          simp only [P4.val, P4.valFrom]
          exact congrArg some (by omega)
      · refine .inr ⟨?_, ?_⟩
        · rw [Lib.parseUintB, if_neg (by simp), Lib.parseUintM, if_pos ha, if_neg (by omega), if_neg (by omega), Lib.parseUintM, if_neg hb]; rfl
        · unfold chunk
          exact if_neg fun q => hb (by have := q.1; simp [P4.isD] at this; omega)
    · refine .inr ⟨?_, ?_⟩
      · rw [Lib.parseUintB, if_neg (by simp), Lib.parseUintM, if_neg ha]; rfl
      · unfold chunk
        exact if_neg fun q => ha (by have := q.1; simp [P4.isD] at this; omega)
/-- a round: one part more -/
theorem pv_go (st : Bool) (u : Int) (us : List Int) (acc : Int) (r : List UInt8) (h : r ≠ []) (v : Int) (hv : chunk st (r.take 2) = some v) : pv st (u :: us) acc r = pv st us (acc + v * u) (r.drop 2) := by
  rw [pv, if_neg h, hv]
theorem pv_stop (st : Bool) (u : Int) (us : List Int) (acc : Int) (r : List UInt8) (h : r ≠ []) (hv : chunk st (r.take 2) = none) : pv st (u :: us) acc r = none := by
  rw [pv, if_neg h, hv]
theorem fin_empty (o : Option Int) : fin [] o = (0, 5) := by
  cases o with
  | none => rfl
  | some x => rw [fin_some, if_neg (by simp)]
theorem fin_eq {s : List UInt8} {acc y : Int} (hs : s ≠ []) (hy : sgn s acc = y) (h : text y = s) : fin s (some acc) = (y, 0) := by
  rw [fin_some, hy, if_pos ⟨hs, h⟩]
theorem fin_ne {s : List UInt8} {acc y : Int} (hy : sgn s acc = y) (h : ¬ text y = s) : fin s (some acc) = (0, 5) := by
  rw [fin_some, hy, if_neg fun q => h q.2]
theorem sgn_minus {s : List UInt8} (acc : Int) (h : Lib.hasPrefix s [45] = true) : sgn s acc = -acc := by
  unfold sgn
  rw [if_pos]
  cases s with
  | nil => simp [Lib.hasPrefix] at h
  | cons a s => simp [Lib.hasPrefix] at h; simp [← h]
theorem sgn_plus {s : List UInt8} (acc : Int) (h : Lib.hasPrefix s [45] = false) : sgn s acc = acc := by
  unfold sgn
  rw [if_neg]
  cases s with
  | nil => simp
  | cons a s =>
    intro q
    simp at q
    subst q
    simp [Lib.hasPrefix] at h
end Go.Proofs.YtlideagcmhlkeaaDoor.P20

/- The walks of the reference's Decimal and Two (chapter 4), for seats that reach these two alone. -/
namespace Go.Proofs.YtlideagcmhlkeaaDoor
open Go.RowKit
set_option linter.unusedVariables false

end Go.Proofs.YtlideagcmhlkeaaDoor

/-
  DERIVED: THE SHELF's CONTRACTS AT THIS DUMP, IN PLAIN WORDS (tools/lay-plain.mjs out of 'YtlideagcmhlkeaaDoorShelfRaw.lean', which tools/lay-shelf.mjs wrote): THE SAME DECLARATIONS UNDER THE SAME NAMES: 'import', 'namespace', 'open', 'def', 'theorem' AND NOTHING ELSE: no command of the shelf's: FOR A HAND-IN. Each laying: the table of numbers ('.._ren') and one theorem, a field a fact of the dump's own or the kernel's comparison; each contract: ONE APPLICATION.
-/
namespace Go.Proofs
open Go.Shelf
def Tryd.lays156_ren : Go.Shelf.Ren := ⟨fun | 156 => 92 | 165 => 109 | 166 => 100 | 169 => 102 | 240 => 116 | 241 => 121 | 276 => 131 | 277 => 137 | n => n, fun | 31 => 30 | 9 => 9 | 3 => 3 | 4 => 4 | 0 => 0 | 20 => 20 | 72 => 158 | 76 => 162 | 70 => 156 | 37 => 24 | 75 => 161 | 127 => 182 | 164 => 193 | 5 => 5 | 80 => 167 | n => n, fun | n => n⟩
theorem Tryd.lays156 : Go.Proofs.Lays.n156 Tryd.prog Tryd.lays156_ren := {
  mixed := by kernel_rfl
  f156 := Tryd.func92.trans (congrArg some (by kernel_rfl))
  f165 := Tryd.func109.trans (congrArg some (by kernel_rfl))
  f166 := Tryd.func100.trans (congrArg some (by kernel_rfl))
  f169 := Tryd.func102.trans (congrArg some (by kernel_rfl))
  f240 := Tryd.func116.trans (congrArg some (by kernel_rfl))
  f241 := Tryd.func121.trans (congrArg some (by kernel_rfl))
  f276 := Tryd.func131.trans (congrArg some (by kernel_rfl))
  f277 := Tryd.func137.trans (congrArg some (by kernel_rfl))
  t0 := Tryd.underlying0
  a0 := Tryd.isAgg0
  z0 := Tryd.sizeOf0
  v0 := Tryd.zeroValue0
  t3 := Tryd.underlying3
  a3 := Tryd.isAgg3
  z3 := Tryd.sizeOf3
  v3 := Tryd.zeroValue3
  t4 := Tryd.underlying4
  a4 := Tryd.isAgg4
  z4 := Tryd.sizeOf4
  v4 := Tryd.zeroValue4
  t9 := Tryd.underlying9
  a9 := Tryd.isAgg9
  z9 := Tryd.sizeOf9
  v9 := Tryd.zeroValue9
  t20 := Tryd.underlying20
  a20 := Tryd.isAgg20
  z20 := Tryd.sizeOf20
  v20 := Tryd.zeroValue20
  t31 := Tryd.underlying30
  a31 := Tryd.isAgg30
  z31 := Tryd.sizeOf30
  v31 := Tryd.zeroValue30
  t37 := Tryd.underlying24
  a37 := Tryd.isAgg24
  z37 := Tryd.sizeOf24
  v37 := Tryd.zeroValue24
  t70 := Tryd.underlying156
  a70 := Tryd.isAgg156
  z70 := Tryd.sizeOf156
  v70 := Tryd.zeroValue156
  t72 := Tryd.underlying158
  a72 := Tryd.isAgg158
  z72 := Tryd.sizeOf158
  v72 := Tryd.zeroValue158
  t75 := Tryd.underlying161
  a75 := Tryd.isAgg161
  z75 := Tryd.sizeOf161
  v75 := Tryd.zeroValue161
  t76 := Tryd.underlying162
  a76 := Tryd.isAgg162
  z76 := Tryd.sizeOf162
  v76 := Tryd.zeroValue162
  t127 := Tryd.underlying182
  a127 := Tryd.isAgg182
  z127 := Tryd.sizeOf182
  v127 := Tryd.zeroValue182
  t164 := Tryd.underlying193
  a164 := Tryd.isAgg193
  z164 := Tryd.sizeOf193
  v164 := Tryd.zeroValue193 }
theorem Tryd.Builder_Extra_156 : Builder.Extra Tryd.prog Tryd.lays156_ren := {
  sizeBuilder := by kernel_rfl
  liesBuilder := by kernel_rfl
  t5 := Tryd.underlying5
  a5 := Tryd.isAgg5
  z5 := Tryd.sizeOf5
  v5 := Tryd.zeroValue5
  infoByte := by kernel_rfl
  cellsByte := by kernel_rfl
  sizeByte := by kernel_rfl
  neB5 := by decide }
open Go.RowKit in
/-- strings.Join: "Join concatenates the elements of its first argument to create a single string. The separator string sep is placed between elements in the resulting string.": HOWEVER MANY ELEMENTS. Below the heap's end the world is as it was. (LAID: no walk: one application.) -/
theorem Tryd.strings_Join (bk o c : Nat) (xs : List ByteArray) (sep : ByteArray) (w : World) (hcells : ∀ (j : Nat) x, xs[j]? = some x → w.cell? ⟨bk, o + j, none⟩ = some (.string x)) (hbk : bk < w.heap.size) (hN : xs.length ≤ 140737488355328) (hcap : xs.length ≤ c) (hlen : (Lib.join (xs.map (·.data.toList)) sep.data.toList).length ≤ 140737488355328) :
    Calls Tryd.prog 92 #[.slice (some ⟨bk, o, none⟩) xs.length c, .string sep] w fun e w' => e = .returned (.string ⟨(Lib.join (xs.map (·.data.toList)) sep.data.toList).toArray⟩) ∧ Below w.heap.size w w' := Any.strings_Join Tryd.lays156 Tryd.Builder_Extra_156 bk o c xs sep w hcells hbk hN hcap hlen
def Tryd.laysPu14_ren : Go.Shelf.Ren := ⟨fun | 14 => 114 | 16 => 128 | 17 => 129 | 19 => 143 | 20 => 144 | 21 => 145 | 22 => 146 | 23 => 147 | 24 => 148 | 25 => 152 | 27 => 45 | 26 => 153 | 28 => 81 | 29 => 105 | 30 => 117 | 31 => 118 | 32 => 119 | 33 => 120 | 35 => 133 | 34 => 132 | 36 => 134 | 37 => 135 | 38 => 136 | 39 => 149 | 40 => 150 | n => n, fun | 9 => 9 | 3 => 3 | 22 => 178 | 24 => 161 | 25 => 179 | 4 => 4 | 34 => 206 | 5 => 5 | 36 => 184 | 37 => 24 | 0 => 0 | 39 => 208 | 21 => 21 | 44 => 213 | 47 => 182 | 50 => 219 | 48 => 217 | 2 => 2 | 52 => 185 | 55 => 188 | 59 => 196 | 60 => 197 | 20 => 20 | 61 => 198 | 65 => 215 | 66 => 216 | 67 => 167 | n => n, fun | 0 => 3 | 1 => 4 | 2 => 2 | 3 => 5 | 4 => 6 | n => n⟩
theorem Tryd.laysPu14 : Go.Proofs.LaysPu.n14 Tryd.prog Tryd.laysPu14_ren := {
  mixed := by kernel_rfl
  f14 := Tryd.func114.trans (congrArg some (by kernel_rfl))
  f16 := Tryd.func128.trans (congrArg some (by kernel_rfl))
  f17 := Tryd.func129.trans (congrArg some (by kernel_rfl))
  f19 := Tryd.func143.trans (congrArg some (by kernel_rfl))
  f20 := Tryd.func144.trans (congrArg some (by kernel_rfl))
  f21 := Tryd.func145.trans (congrArg some (by kernel_rfl))
  f22 := Tryd.func146.trans (congrArg some (by kernel_rfl))
  f23 := Tryd.func147.trans (congrArg some (by kernel_rfl))
  f24 := Tryd.func148.trans (congrArg some (by kernel_rfl))
  f25 := Tryd.func152.trans (congrArg some (by kernel_rfl))
  f26 := Tryd.func153.trans (congrArg some (by kernel_rfl))
  f27 := Tryd.func45.trans (congrArg some (by kernel_rfl))
  f28 := Tryd.func81.trans (congrArg some (by kernel_rfl))
  f29 := Tryd.func105.trans (congrArg some (by kernel_rfl))
  f30 := Tryd.func117.trans (congrArg some (by kernel_rfl))
  f31 := Tryd.func118.trans (congrArg some (by kernel_rfl))
  f32 := Tryd.func119.trans (congrArg some (by kernel_rfl))
  f33 := Tryd.func120.trans (congrArg some (by kernel_rfl))
  f34 := Tryd.func132.trans (congrArg some (by kernel_rfl))
  f35 := Tryd.func133.trans (congrArg some (by kernel_rfl))
  f36 := Tryd.func134.trans (congrArg some (by kernel_rfl))
  f37 := Tryd.func135.trans (congrArg some (by kernel_rfl))
  f38 := Tryd.func136.trans (congrArg some (by kernel_rfl))
  f39 := Tryd.func149.trans (congrArg some (by kernel_rfl))
  f40 := Tryd.func150.trans (congrArg some (by kernel_rfl))
  t0 := Tryd.underlying0
  a0 := Tryd.isAgg0
  z0 := Tryd.sizeOf0
  v0 := Tryd.zeroValue0
  i0 := by kernel_rfl
  t2 := Tryd.underlying2
  a2 := Tryd.isAgg2
  z2 := Tryd.sizeOf2
  v2 := Tryd.zeroValue2
  i2 := by kernel_rfl
  t3 := Tryd.underlying3
  a3 := Tryd.isAgg3
  z3 := Tryd.sizeOf3
  v3 := Tryd.zeroValue3
  i3 := by kernel_rfl
  t4 := Tryd.underlying4
  a4 := Tryd.isAgg4
  z4 := Tryd.sizeOf4
  v4 := Tryd.zeroValue4
  i4 := by kernel_rfl
  t5 := Tryd.underlying5
  a5 := Tryd.isAgg5
  z5 := Tryd.sizeOf5
  v5 := Tryd.zeroValue5
  i5 := by kernel_rfl
  t9 := Tryd.underlying9
  a9 := Tryd.isAgg9
  z9 := Tryd.sizeOf9
  v9 := Tryd.zeroValue9
  i9 := by kernel_rfl
  t20 := Tryd.underlying20
  a20 := Tryd.isAgg20
  z20 := Tryd.sizeOf20
  v20 := Tryd.zeroValue20
  i20 := by kernel_rfl
  t21 := Tryd.underlying21
  a21 := Tryd.isAgg21
  z21 := Tryd.sizeOf21
  v21 := Tryd.zeroValue21
  i21 := by kernel_rfl
  t22 := Tryd.underlying178
  a22 := Tryd.isAgg178
  z22 := Tryd.sizeOf178
  v22 := Tryd.zeroValue178
  i22 := by kernel_rfl
  t24 := Tryd.underlying161
  a24 := Tryd.isAgg161
  z24 := Tryd.sizeOf161
  v24 := Tryd.zeroValue161
  i24 := by kernel_rfl
  t25 := Tryd.underlying179
  a25 := Tryd.isAgg179
  z25 := Tryd.sizeOf179
  v25 := Tryd.zeroValue179
  i25 := by kernel_rfl
  t34 := Tryd.underlying206
  a34 := Tryd.isAgg206
  z34 := Tryd.sizeOf206
  v34 := Tryd.zeroValue206
  i34 := by kernel_rfl
  c34 := by kernel_rfl
  t36 := Tryd.underlying184
  a36 := Tryd.isAgg184
  z36 := Tryd.sizeOf184
  v36 := Tryd.zeroValue184
  i36 := by kernel_rfl
  t37 := Tryd.underlying24
  a37 := Tryd.isAgg24
  z37 := Tryd.sizeOf24
  v37 := Tryd.zeroValue24
  i37 := by kernel_rfl
  t39 := Tryd.underlying208
  a39 := Tryd.isAgg208
  z39 := Tryd.sizeOf208
  v39 := Tryd.zeroValue208
  i39 := by kernel_rfl
  t44 := Tryd.underlying213
  a44 := Tryd.isAgg213
  z44 := Tryd.sizeOf213
  v44 := Tryd.zeroValue213
  i44 := by kernel_rfl
  t47 := Tryd.underlying182
  a47 := Tryd.isAgg182
  z47 := Tryd.sizeOf182
  v47 := Tryd.zeroValue182
  i47 := by kernel_rfl
  t48 := Tryd.underlying217
  a48 := Tryd.isAgg217
  z48 := Tryd.sizeOf217
  v48 := Tryd.zeroValue217
  i48 := by kernel_rfl
  t50 := Tryd.underlying219
  a50 := Tryd.isAgg219
  z50 := Tryd.sizeOf219
  v50 := Tryd.zeroValue219
  i50 := by kernel_rfl
  t52 := Tryd.underlying185
  a52 := Tryd.isAgg185
  z52 := Tryd.sizeOf185
  v52 := Tryd.zeroValue185
  i52 := by kernel_rfl
  t55 := Tryd.underlying188
  a55 := Tryd.isAgg188
  z55 := Tryd.sizeOf188
  v55 := Tryd.zeroValue188
  i55 := by kernel_rfl
  t59 := Tryd.underlying196
  a59 := Tryd.isAgg196
  z59 := Tryd.sizeOf196
  v59 := Tryd.zeroValue196
  i59 := by kernel_rfl
  t60 := Tryd.underlying197
  a60 := Tryd.isAgg197
  z60 := Tryd.sizeOf197
  v60 := Tryd.zeroValue197
  i60 := by kernel_rfl
  t61 := Tryd.underlying198
  a61 := Tryd.isAgg198
  z61 := Tryd.sizeOf198
  t65 := Tryd.underlying215
  a65 := Tryd.isAgg215
  z65 := Tryd.sizeOf215
  v65 := Tryd.zeroValue215
  i65 := by kernel_rfl
  t66 := Tryd.underlying216
  a66 := Tryd.isAgg216
  z66 := Tryd.sizeOf216
  v66 := Tryd.zeroValue216
  i66 := by kernel_rfl
  t67 := Tryd.underlying167
  a67 := Tryd.isAgg167
  z67 := Tryd.sizeOf167
  v67 := Tryd.zeroValue167
  i67 := by kernel_rfl
  g0 := by kernel_rfl
  m0 := by kernel_rfl
  g1 := by kernel_rfl
  m1 := by kernel_rfl
  g2 := by kernel_rfl
  m2 := by kernel_rfl
  g3 := by kernel_rfl
  m3 := by kernel_rfl
  g4 := by kernel_rfl
  m4 := by kernel_rfl }
open Go.RowKit in
/-- strconv.ParseUint(s, 10, 8), AT EVERY STRING THAT SPELLS A uint8 ('Lib.parseUintB 8 s.data.toList = .ok u'): u, AND NO ERROR. (LAID: no walk: one application.) -/
theorem Tryd.strconv_ParseUint_10_at8_ok (s : ByteArray) (hmax : s.size ≤ 9223372036854775806) (u : Nat) (h : Lib.parseUintB 8 s.data.toList = .ok u) (w : World) :
    Calls Tryd.prog 114 #[.string s, .int .i64 10, .int .i64 8] w fun e w' => e = .returned (.tuple #[.int .u64 u, .nilIface]) ∧ (w' = w ∨ w' = Lib.bytesWorld w 5 s) := Any.strconv_ParseUint_10_at8_ok Tryd.laysPu14 s hmax u h w
def Tryd.lays145_ren : Go.Shelf.Ren := ⟨fun | 145 => 66 | 220 => 97 | 219 => 113 | 217 => 124 | 225 => 125 | 224 => 126 | 267 => 127 | 266 => 141 | 314 => 142 | n => n, fun | 9 => 9 | 4 => 4 | 59 => 75 | 3 => 3 | 5 => 5 | 46 => 184 | 146 => 204 | 51 => 197 | n => n, fun | 1 => 1 | n => n⟩
theorem Tryd.lays145 : Go.Proofs.Lays.n145 Tryd.prog Tryd.lays145_ren := {
  mixed := by kernel_rfl
  f145 := Tryd.func66.trans (congrArg some (by kernel_rfl))
  f217 := Tryd.func124.trans (congrArg some (by kernel_rfl))
  f219 := Tryd.func113.trans (congrArg some (by kernel_rfl))
  f220 := Tryd.func97.trans (congrArg some (by kernel_rfl))
  f224 := Tryd.func126.trans (congrArg some (by kernel_rfl))
  f225 := Tryd.func125.trans (congrArg some (by kernel_rfl))
  f266 := Tryd.func141.trans (congrArg some (by kernel_rfl))
  f267 := Tryd.func127.trans (congrArg some (by kernel_rfl))
  f314 := Tryd.func142.trans (congrArg some (by kernel_rfl))
  t3 := Tryd.underlying3
  a3 := Tryd.isAgg3
  z3 := Tryd.sizeOf3
  v3 := Tryd.zeroValue3
  t4 := Tryd.underlying4
  a4 := Tryd.isAgg4
  z4 := Tryd.sizeOf4
  v4 := Tryd.zeroValue4
  t5 := Tryd.underlying5
  a5 := Tryd.isAgg5
  z5 := Tryd.sizeOf5
  v5 := Tryd.zeroValue5
  t9 := Tryd.underlying9
  a9 := Tryd.isAgg9
  z9 := Tryd.sizeOf9
  v9 := Tryd.zeroValue9
  t46 := Tryd.underlying184
  a46 := Tryd.isAgg184
  z46 := Tryd.sizeOf184
  v46 := Tryd.zeroValue184
  t51 := Tryd.underlying197
  a51 := Tryd.isAgg197
  z51 := Tryd.sizeOf197
  v51 := Tryd.zeroValue197
  t59 := Tryd.underlying75
  a59 := Tryd.isAgg75
  z59 := Tryd.sizeOf75
  v59 := Tryd.zeroValue75
  t146 := Tryd.underlying204
  a146 := Tryd.isAgg204
  z146 := Tryd.sizeOf204
  v146 := Tryd.zeroValue204
  g1 := by kernel_rfl }
open Go.RowKit Go.Lib in
/-- strings.Cut: "Cut slices s around the first instance of sep, returning the text before and after sep. The found result reports whether sep appears in s. If sep does not appear in s, cut returns s, "", false.": IT RETURNS 'Lib.cut s sep'; the world is as it was but for the count of draws. (LAID: no walk: one application.) -/
theorem Tryd.strings_Cut (s sep : ByteArray) (m : Int) (w : World) (hs : s.size < 4294967281) (hm : w.cell? ⟨1, 0, none⟩ = some (.int .i64 m)) :
    Calls Tryd.prog 66 #[.string s, .string sep] w fun e w' => e = .returned (.tuple #[.string ⟨(Lib.cut s.data.toList sep.data.toList).1.toArray⟩, .string ⟨(Lib.cut s.data.toList sep.data.toList).2.1.toArray⟩, .bool (Lib.cut s.data.toList sep.data.toList).2.2]) ∧ ∃ n, w' = w.drewN n := Any.strings_Cut Tryd.lays145 s sep m w hs hm
def Tryd.laysM145_ren : Go.Shelf.Ren := ⟨fun | 145 => 66 | 220 => 97 | 219 => 113 | 217 => 124 | 225 => 125 | 224 => 126 | 267 => 127 | 266 => 141 | 314 => 142 | n => n, fun | 9 => 9 | 4 => 4 | 59 => 75 | 3 => 3 | 5 => 5 | 46 => 184 | 146 => 204 | 51 => 197 | n => n, fun | 1 => 1 | n => n⟩
theorem Tryd.laysM145 : Go.Proofs.LaysM.n145 Tryd.prog Tryd.laysM145_ren := {
  mixed := by kernel_rfl
  f145 := Tryd.func66.trans (congrArg some (by kernel_rfl))
  f217 := Tryd.func124.trans (congrArg some (by kernel_rfl))
  f219 := Tryd.func113.trans (congrArg some (by kernel_rfl))
  f220 := Tryd.func97.trans (congrArg some (by kernel_rfl))
  f224 := Tryd.func126.trans (congrArg some (by kernel_rfl))
  f225 := Tryd.func125.trans (congrArg some (by kernel_rfl))
  f266 := Tryd.func141.trans (congrArg some (by kernel_rfl))
  f267 := Tryd.func127.trans (congrArg some (by kernel_rfl))
  f314 := Tryd.func142.trans (congrArg some (by kernel_rfl))
  t3 := Tryd.underlying3
  a3 := Tryd.isAgg3
  z3 := Tryd.sizeOf3
  v3 := Tryd.zeroValue3
  t4 := Tryd.underlying4
  a4 := Tryd.isAgg4
  z4 := Tryd.sizeOf4
  v4 := Tryd.zeroValue4
  t5 := Tryd.underlying5
  a5 := Tryd.isAgg5
  z5 := Tryd.sizeOf5
  v5 := Tryd.zeroValue5
  t9 := Tryd.underlying9
  a9 := Tryd.isAgg9
  z9 := Tryd.sizeOf9
  v9 := Tryd.zeroValue9
  t46 := Tryd.underlying184
  a46 := Tryd.isAgg184
  z46 := Tryd.sizeOf184
  v46 := Tryd.zeroValue184
  t51 := Tryd.underlying197
  a51 := Tryd.isAgg197
  z51 := Tryd.sizeOf197
  v51 := Tryd.zeroValue197
  t59 := Tryd.underlying75
  a59 := Tryd.isAgg75
  z59 := Tryd.sizeOf75
  v59 := Tryd.zeroValue75
  t146 := Tryd.underlying204
  a146 := Tryd.isAgg204
  z146 := Tryd.sizeOf204
  v146 := Tryd.zeroValue204
  g1 := by kernel_rfl
  i3 := by kernel_rfl
  i4 := by kernel_rfl
  i5 := by kernel_rfl
  i9 := by kernel_rfl
  i46 := by kernel_rfl
  i51 := by kernel_rfl
  i59 := by kernel_rfl
  i146 := by kernel_rfl
  m1 := by kernel_rfl
  s1_3 := fun w h => Go.Proofs.cell_of_shapedOpen_int (zero := #[.int .i64 0]) (t := 3) h (of_decide_eq_true (by kernel_rfl)) (by kernel_rfl) rfl (by kernel_rfl) (by kernel_rfl) Tryd.underlying3 }
def Tryd.lays315_ren : Go.Shelf.Ren := ⟨fun | 315 => 106 | n => n, fun | 9 => 9 | 40 => 149 | 4 => 4 | 3 => 3 | 0 => 0 | 21 => 21 | n => n, fun | n => n⟩
theorem Tryd.lays315 : Go.Proofs.Lays.n315 Tryd.prog Tryd.lays315_ren := {
  mixed := by kernel_rfl
  f315 := Tryd.func106.trans (congrArg some (by kernel_rfl))
  t0 := Tryd.underlying0
  a0 := Tryd.isAgg0
  z0 := Tryd.sizeOf0
  v0 := Tryd.zeroValue0
  t3 := Tryd.underlying3
  a3 := Tryd.isAgg3
  z3 := Tryd.sizeOf3
  v3 := Tryd.zeroValue3
  t4 := Tryd.underlying4
  a4 := Tryd.isAgg4
  z4 := Tryd.sizeOf4
  v4 := Tryd.zeroValue4
  t9 := Tryd.underlying9
  a9 := Tryd.isAgg9
  z9 := Tryd.sizeOf9
  v9 := Tryd.zeroValue9
  t21 := Tryd.underlying21
  a21 := Tryd.isAgg21
  z21 := Tryd.sizeOf21
  v21 := Tryd.zeroValue21
  t40 := Tryd.underlying149
  a40 := Tryd.isAgg149
  z40 := Tryd.sizeOf149
  v40 := Tryd.zeroValue149 }
open Go.RowKit Go.Lib in
theorem Tryd.strings_indexFunc (g : Nat) (lb : Array Value) (eg : ∀ args w, (callFunc g args).run Tryd.prog w = .ok (.enter g args) w) (p : Nat → Bool) (truth : Bool) (s : ByteArray) (w : World) (hp : PredAt Tryd.prog g lb encR p w) :
    Calls Tryd.prog 106 #[.string s, .func (.func g) #[] lb, .bool truth] w fun e w' => e = .returned (.int .i64 (Lib.idxFunc p truth s)) ∧ Below w.heap.size w w' := Any.strings_indexFunc Tryd.lays315 g lb eg p truth s w hp
def Tryd.lays99_ren : Go.Shelf.Ren := ⟨fun | 99 => 115 | 206 => 130 | n => n, fun | 9 => 9 | 4 => 4 | 3 => 3 | n => n, fun | n => n⟩
theorem Tryd.lays99 : Go.Proofs.Lays.n99 Tryd.prog Tryd.lays99_ren := {
  mixed := by kernel_rfl
  f99 := Tryd.func115.trans (congrArg some (by kernel_rfl))
  f206 := Tryd.func130.trans (congrArg some (by kernel_rfl))
  t3 := Tryd.underlying3
  a3 := Tryd.isAgg3
  z3 := Tryd.sizeOf3
  v3 := Tryd.zeroValue3
  t4 := Tryd.underlying4
  a4 := Tryd.isAgg4
  z4 := Tryd.sizeOf4
  v4 := Tryd.zeroValue4
  t9 := Tryd.underlying9
  a9 := Tryd.isAgg9
  z9 := Tryd.sizeOf9
  v9 := Tryd.zeroValue9 }
open Go.RowKit Go.Lib in
/-- strings.HasPrefix: "HasPrefix reports whether the string s begins with prefix.": IT RETURNS 'Lib.hasPrefix s prefix'; the world is as it was. (LAID: no walk: one application.) -/
theorem Tryd.strings_HasPrefix (s p : ByteArray) (w : World) :
    Calls Tryd.prog 115 #[.string s, .string p] w fun e w' => e = .returned (.bool (Lib.hasPrefix s.data.toList p.data.toList)) ∧ w' = w := Any.strings_HasPrefix Tryd.lays99 s p w
end Go.Proofs

/- The walks of numeric.Text at every offset, numeric.Parse, and of the reference's Text and Parse (chapter 20). -/
namespace Go.Proofs.YtlideagcmhlkeaaDoor
open Go.RowKit
set_option linter.unusedVariables false

theorem gSyn : Tryd.prog.globalNamed "strconv.ErrSyntax" = some 3 := by kernel_rfl
theorem var_below {P : Program} {B g : Nat} {W W' : World} {n : String} {cs : Array Value} (h : Below B W W') (hg : P.globalNamed n = some g) (hgB : g < B) (hv : W.var? P n = some cs) : W'.var? P n = some cs := by
  unfold World.var? at hv ⊢
  simp only [hg, Option.bind_some] at hv ⊢
  rw [h.block g hgB]
  exact hv
/-- the one variable that chapter 20 reads: the error of a number that is none -/
structure Vars (w : World) : Prop where
  syn : ∃ tp p, w.var? Tryd.prog "strconv.ErrSyntax" = some #[.iface tp p]
  big : 3 < w.heap.size
theorem Vars.below {w w' : World} (h : Vars w) (hb : Below w.heap.size w w') : Vars w' := by
  obtain ⟨tp, p, hs⟩ := h.syn
  exact ⟨⟨tp, p, var_below hb gSyn h.big hs⟩, Nat.lt_of_lt_of_le h.big hb.size⟩

set_option maxRecDepth 100000 in
set_option maxHeartbeats 400000 in
theorem ntext_any (x : Int) (w : World) (h0 : -9223372036854775808 ≤ x) (h1 : x ≤ 9223372036854775807) :
    Calls Tryd.prog 24 #[.int .i64 x] w fun e w' => e = .returned (.string (str (P20.text x))) ∧ Below w.heap.size w w' := by
  by_cases hr : x ≤ -86400 ∨ 86400 ≤ x
  · rw [P20.text_out hr]
    rcases hr with h | h
    · go_enter Tryd.func24, Tryd.ntmps24
      go_wp2_with fail
      go_step3
      go_wp2_with fail
      try rw [Exit.noGoto_ret]
      go_ret
      exact ⟨rfl, Below.refl _ _⟩
    · have h' : ¬ x ≤ -86400 := by omega
      go_enter Tryd.func24, Tryd.ntmps24
      go_wp2_with fail
      go_step3
      go_wp2_with fail
      try rw [Exit.noGoto_ret]
      go_ret
      exact ⟨rfl, Below.refl _ _⟩
  · rw [P20.text_in (by omega) (by omega)]
    by_cases hn : x < 0
    · rw [if_pos hn]; exact ntext_in 45 x x.natAbs w (by omega) (.inr ⟨hn, by omega, rfl⟩)
    · rw [if_neg hn]; exact ntext_in 43 x x.natAbs w (by omega) (.inl ⟨by omega, rfl⟩)

end Go.Proofs.YtlideagcmhlkeaaDoor

/- The walk of numeric.Parse (chapter 20). -/
namespace Go.Proofs.YtlideagcmhlkeaaDoor
open Go.RowKit
set_option linter.unusedVariables false

theorem puint_ok (d : ByteArray) (u : Nat) (w : World) (hd : d.size ≤ 2) (h : Lib.parseUintB 8 (P4.bl d) = .ok u) :
    Calls Tryd.prog 114 #[.string d, .int .i64 10, .int .i64 8] w fun e w' => e = .returned (.tuple #[.int .u64 (u : Int), .nilIface]) ∧ Below w.heap.size w w' := by
  refine (Tryd.strconv_ParseUint_10_at8_ok d (by omega) u h w).mono ?_
  rintro e w' ⟨rfl, hw⟩
  refine ⟨rfl, ?_⟩
  rcases hw with rfl | rfl
  · exact Below.refl _ _
  · exact Lib.bytesWorld_below _ _ _
theorem puint_no (d : ByteArray) (w : World) (hd : d.size ≤ 2) (h : Lib.parseUintB 8 (P4.bl d) = Lib.parseUintB 8 []) (hv : Vars w) :
    Calls Tryd.prog 114 #[.string d, .int .i64 10, .int .i64 8] w fun e w' => (∃ N, e = .returned (.tuple #[.int .u64 0, .iface 208 (.pointer (some ⟨N, 0, none⟩))])) ∧ Below w.heap.size w w' := by
  obtain ⟨tp, p, hs⟩ := hv.syn
  refine (Any.strconv_ParseUint_10_at8_syntax_var Tryd.laysPu14 d (by omega) h tp p w hs).mono ?_
  rintro e w' ⟨N, rfl, _, _, hb⟩
  exact ⟨⟨N, rfl⟩, hb⟩
theorem eq_b (a b : ByteArray) (h : ¬ a = b) : (a.toList == b.toList) = false := by
  rw [beq_eq_false_iff_ne]
  intro q
  rw [ByteArray.toList_eq, ByteArray.toList_eq] at q
  exact h (ByteArray.ext (Array.toList_inj.mp q))
theorem ne_b (a b : ByteArray) (h : ¬ a = b) : (a.toList != b.toList) = true := by rw [bne, eq_b a b h]; rfl
theorem str_ne {l : List UInt8} (h : 0 < l.length) : (str l).toList.isEmpty = false ∧ ¬ (str l).toList = [] := by
  have e : (str l).toList = l := by rw [ByteArray.toList_eq]; rfl
  rw [e]
  cases l with
  | nil => simp at h
  | cons a l => exact ⟨rfl, by simp⟩
theorem s_ne {s : ByteArray} (h : 0 < s.size) : s.toList.isEmpty = false ∧ ¬ s.toList = [] := str_ne (l := P4.bl s) (by rw [P4.bl_len]; exact h)
theorem idx3 (k v : Int) (h : (k = 0 ∧ v = 3600) ∨ (k = 1 ∧ v = 60) ∨ (k = 2 ∧ v = 1)) : ∀ w : World, (Instr.index 114 (.agg #[.int .i64 3600, .int .i64 60, .int .i64 1]) (.int .i64 k)).run Tryd.prog w = .ok (.int .i64 v) w := by
  intro w
  rcases h with ⟨rfl, rfl⟩ | ⟨rfl, rfl⟩ | ⟨rfl, rfl⟩
  · kernel_rfl
  · kernel_rfl
  · kernel_rfl
/-- a part of the string, read -/
theorem part_cases (s : ByteArray) (k : Nat) (j : Nat) (h1 : 1 + 2 * k < s.size) (hj : (j = 3 + 2 * k ∧ 3 + 2 * k ≤ s.size) ∨ (j = s.size ∧ s.size ≤ 3 + 2 * k)) :
    P4.bl (s.extract (1 + 2 * k) j) = ((P4.bl s).drop (1 + 2 * k)).take 2 ∧ (s.extract (1 + 2 * k) j).size ≤ 2 ∧ (P4.bl s).drop (1 + 2 * k) ≠ [] ∧
    ((∃ u : Nat, Lib.parseUintB 8 (P4.bl (s.extract (1 + 2 * k) j)) = .ok u ∧ P20.chunk false (((P4.bl s).drop (1 + 2 * k)).take 2) = some (u : Int) ∧ u ≤ 99) ∨
      (Lib.parseUintB 8 (P4.bl (s.extract (1 + 2 * k) j)) = Lib.parseUintB 8 [] ∧ P20.chunk false (((P4.bl s).drop (1 + 2 * k)).take 2) = none)) := by
  have hl := P4.bl_len s
  have hb := P20.chunk_bl s (1 + 2 * k) j (by omega)
  have hz : (s.extract (1 + 2 * k) j).size = j - (1 + 2 * k) := by rw [ByteArray.size_extract]; omega
  refine ⟨hb, by omega, ?_, ?_⟩
  · intro q
    have := congrArg List.length q
    rw [List.length_drop, List.length_nil] at this
    omega
  · rw [← hb]
    exact P20.uint8_cases _ (by rw [P4.bl_len]; omega)

set_option maxRecDepth 100000 in
set_option maxHeartbeats 8000000 in
theorem nparse_any (s : ByteArray) (w : World) (hs : s.size ≤ 1100000) (hv : Vars w) :
    Calls Tryd.prog 98 #[.string s] w fun e w' => e = .returned (.tuple #[.int .i64 (P20.parse (P4.bl s)).1, .int .i64 (P20.parse (P4.bl s)).2]) ∧ Below w.heap.size w w' := by
  rw [← P20.parse_loose]
  obtain ⟨R, hR⟩ : ∃ R, R = P20.parseB false (P4.bl s) := ⟨_, rfl⟩
  rw [← hR]
  have HR : Hid (P20.fin (P4.bl s) (P20.pv false P20.units 0 ((P4.bl s).drop (1 + 2 * 0))) = R) := Lib.hid hR.symm
  clear hR
  have hsz : (s.size : Int) ≤ 1100000 := by omega
  go_enter Tryd.func98, Tryd.ntmps98
  go_upto_block 0 with (fail)
  go_cut [4] (fun s4 wx => ∃ acc : Int, s4 = .int .i64 acc ∧ 0 ≤ acc ∧ acc ≤ 99 * 3661 ∧ Hid (P20.fin (P4.bl s) (some acc) = R) ∧ Below w.heap.size w wx)
  case first =>
    go_wp2_with fail
    go_loopw [4, 10] (fun s4 i wr => ∃ k acc : Int, (k = 0 ∨ k = 1 ∨ k = 2 ∨ k = 3) ∧ i = .int .i64 k ∧ s4 = .int .i64 acc ∧ 0 ≤ acc ∧ acc ≤ 99 * 3661 ∧ (k = 0 → acc = 0) ∧ (k = 1 → acc ≤ 99 * 3600) ∧ (k = 2 → acc ≤ 99 * 3660) ∧ Hid (P20.fin (P4.bl s) (P20.pv false (P20.units.drop k.toNat) acc ((P4.bl s).drop (1 + 2 * k.toNat))) = R) ∧ Below w.heap.size w wr) (fun _ i _ => 3 - (intOf i).toNat)
    case atStart => exact ⟨0, 0, .inl rfl, rfl, rfl, by omega, by omega, fun _ => rfl, by omega, by omega, HR, Below.refl _ _⟩
    case round =>
      clear HR
      obtain ⟨k, acc, hk, rfl, rfl, ha0, ha1, hk0, hk1, hk2, HR, hb⟩ := hrel
      rcases hk with rfl | rfl | rfl | rfl
      · have hbd : acc ≤ 0 := by have := hk0 rfl; omega
        have hv1 := hv.below hb
        clear hk0 hk1 hk2
        have hix := idx3 0 3600 (by omega)
        by_cases h1 : 1 < s.size
        · have h1i : (1 : Int) < (s.size : Int) := by omega
          obtain ⟨hbl, hD, hne, hcs⟩ := part_cases s 0 ((min 3 (s.size : Int)).toNat) h1 (by omega)
          have HN := Lib.hid hne
          rcases hcs with ⟨u, hu, hc, hu9⟩ | ⟨hu, hc⟩
          · have HG : Hid (P20.fin (P4.bl s) (P20.pv false (P20.units.drop 1) (acc + u * 3600) ((P4.bl s).drop (1 + 2 * 1))) = R) := by
              have q := P20.pv_go false 3600 (P20.units.drop 1) acc _ hne u hc
              rw [List.drop_drop] at q
              exact Lib.hid ((congrArg _ q.symm).trans HR.out)
            have cU : Hid (∀ W, Calls Tryd.prog 114 #[.string (s.extract 1 (min 3 (s.size : Int)).toNat), .int .i64 10, .int .i64 8] W fun e w' => e = .returned (.tuple #[.int .u64 (u : Int), .nilIface]) ∧ Below W.heap.size W w') := fun W => puint_ok _ u W hD hu
            have hui : (u : Int) ≤ 99 := by omega
            clear HR hbl hD hne hu hc hu9 h1 HN
            go_wp2_with fail
            refine (cU.out _).mono ?_
            rintro e w1 ⟨rfl, hc1⟩
            have hb2 := hb.trans (hc1.mono hb.size)
            clear hc1 hb cU
            go_wp2_with fail
            go_roundw
            case rel => exact ⟨1, acc + u * 3600, by omega, by go_num, by go_num, by omega, by omega, by omega, by omega, by omega, HG, hb2⟩
            case measure => simp [intOf]
          · have HG : R = (0, 5) := by
              have q := P20.pv_stop false 3600 (P20.units.drop 1) acc _ hne hc
              exact (HR.out.symm.trans (congrArg _ q)).trans rfl
            have HG' := Lib.hid HG
            have cU : Hid (∀ W, Vars W → Calls Tryd.prog 114 #[.string (s.extract 1 (min 3 (s.size : Int)).toNat), .int .i64 10, .int .i64 8] W fun e w' => (∃ N, e = .returned (.tuple #[.int .u64 0, .iface 208 (.pointer (some ⟨N, 0, none⟩))])) ∧ Below W.heap.size W w') := fun W h => puint_no _ W hD hu h
            clear HR hbl hD hne hu hc h1 HN HG
            go_wp2_with fail
            refine (cU.out _ hv1).mono ?_
            rintro e w1 ⟨⟨N, rfl⟩, hc1⟩
            have hb2 := hb.trans (hc1.mono hb.size)
            clear hc1 hb cU
            go_wp2_with fail
            go_ret2
            exact ⟨by rw [HG'.out]; rfl, hb2⟩
        · have h1i : (s.size : Int) ≤ 1 := by omega
          have HG : Hid (P20.fin (P4.bl s) (some acc) = R) := by
            have q : (P4.bl s).drop (1 + 2 * 0) = [] := List.drop_eq_nil_of_le (by rw [P4.bl_len]; omega)
            have q2 : P20.pv false (P20.units.drop 0) acc ((P4.bl s).drop (1 + 2 * 0)) = some acc := by rw [q]; exact P20.pv_nil _ _ _
            exact Lib.hid ((congrArg _ q2.symm).trans HR.out)
          clear HR h1
          go_wp2_with fail
          go_meet
          exact ⟨acc, rfl, ha0, ha1, HG, hb⟩
      · have hbd : acc ≤ 356400 := by exact hk1 rfl
        have hv1 := hv.below hb
        clear hk0 hk1 hk2
        have hix := idx3 1 60 (by omega)
        by_cases h1 : 3 < s.size
        · have h1i : (3 : Int) < (s.size : Int) := by omega
          obtain ⟨hbl, hD, hne, hcs⟩ := part_cases s 1 ((min 5 (s.size : Int)).toNat) h1 (by omega)
          have HN := Lib.hid hne
          rcases hcs with ⟨u, hu, hc, hu9⟩ | ⟨hu, hc⟩
          · have HG : Hid (P20.fin (P4.bl s) (P20.pv false (P20.units.drop 2) (acc + u * 60) ((P4.bl s).drop (1 + 2 * 2))) = R) := by
              have q := P20.pv_go false 60 (P20.units.drop 2) acc _ hne u hc
              rw [List.drop_drop] at q
              exact Lib.hid ((congrArg _ q.symm).trans HR.out)
            have cU : Hid (∀ W, Calls Tryd.prog 114 #[.string (s.extract 3 (min 5 (s.size : Int)).toNat), .int .i64 10, .int .i64 8] W fun e w' => e = .returned (.tuple #[.int .u64 (u : Int), .nilIface]) ∧ Below W.heap.size W w') := fun W => puint_ok _ u W hD hu
            have hui : (u : Int) ≤ 99 := by omega
            clear HR hbl hD hne hu hc hu9 h1 HN
            go_wp2_with fail
            refine (cU.out _).mono ?_
            rintro e w1 ⟨rfl, hc1⟩
            have hb2 := hb.trans (hc1.mono hb.size)
            clear hc1 hb cU
            go_wp2_with fail
            go_roundw
            case rel => exact ⟨2, acc + u * 60, by omega, by go_num, by go_num, by omega, by omega, by omega, by omega, by omega, HG, hb2⟩
            case measure => simp [intOf]
          · have HG : R = (0, 5) := by
              have q := P20.pv_stop false 60 (P20.units.drop 2) acc _ hne hc
              exact (HR.out.symm.trans (congrArg _ q)).trans rfl
            have HG' := Lib.hid HG
            have cU : Hid (∀ W, Vars W → Calls Tryd.prog 114 #[.string (s.extract 3 (min 5 (s.size : Int)).toNat), .int .i64 10, .int .i64 8] W fun e w' => (∃ N, e = .returned (.tuple #[.int .u64 0, .iface 208 (.pointer (some ⟨N, 0, none⟩))])) ∧ Below W.heap.size W w') := fun W h => puint_no _ W hD hu h
            clear HR hbl hD hne hu hc h1 HN HG
            go_wp2_with fail
            refine (cU.out _ hv1).mono ?_
            rintro e w1 ⟨⟨N, rfl⟩, hc1⟩
            have hb2 := hb.trans (hc1.mono hb.size)
            clear hc1 hb cU
            go_wp2_with fail
            go_ret2
            exact ⟨by rw [HG'.out]; rfl, hb2⟩
        · have h1i : (s.size : Int) ≤ 3 := by omega
          have HG : Hid (P20.fin (P4.bl s) (some acc) = R) := by
            have q : (P4.bl s).drop (1 + 2 * 1) = [] := List.drop_eq_nil_of_le (by rw [P4.bl_len]; omega)
            have q2 : P20.pv false (P20.units.drop 1) acc ((P4.bl s).drop (1 + 2 * 1)) = some acc := by rw [q]; exact P20.pv_nil _ _ _
            exact Lib.hid ((congrArg _ q2.symm).trans HR.out)
          clear HR h1
          go_wp2_with fail
          go_meet
          exact ⟨acc, rfl, ha0, ha1, HG, hb⟩
      · have hbd : acc ≤ 362340 := by exact hk2 rfl
        have hv1 := hv.below hb
        clear hk0 hk1 hk2
        have hix := idx3 2 1 (by omega)
        by_cases h1 : 5 < s.size
        · have h1i : (5 : Int) < (s.size : Int) := by omega
          obtain ⟨hbl, hD, hne, hcs⟩ := part_cases s 2 ((min 7 (s.size : Int)).toNat) h1 (by omega)
          have HN := Lib.hid hne
          rcases hcs with ⟨u, hu, hc, hu9⟩ | ⟨hu, hc⟩
          · have HG : Hid (P20.fin (P4.bl s) (P20.pv false (P20.units.drop 3) (acc + u * 1) ((P4.bl s).drop (1 + 2 * 3))) = R) := by
              have q := P20.pv_go false 1 (P20.units.drop 3) acc _ hne u hc
              rw [List.drop_drop] at q
              exact Lib.hid ((congrArg _ q.symm).trans HR.out)
            have cU : Hid (∀ W, Calls Tryd.prog 114 #[.string (s.extract 5 (min 7 (s.size : Int)).toNat), .int .i64 10, .int .i64 8] W fun e w' => e = .returned (.tuple #[.int .u64 (u : Int), .nilIface]) ∧ Below W.heap.size W w') := fun W => puint_ok _ u W hD hu
            have hui : (u : Int) ≤ 99 := by omega
            clear HR hbl hD hne hu hc hu9 h1 HN
            go_wp2_with fail
            refine (cU.out _).mono ?_
            rintro e w1 ⟨rfl, hc1⟩
            have hb2 := hb.trans (hc1.mono hb.size)
            clear hc1 hb cU
            go_wp2_with fail
            go_roundw
            case rel => exact ⟨3, acc + u * 1, by omega, by go_num, by go_num, by omega, by omega, by omega, by omega, by omega, HG, hb2⟩
            case measure => simp [intOf]
          · have HG : R = (0, 5) := by
              have q := P20.pv_stop false 1 (P20.units.drop 3) acc _ hne hc
              exact (HR.out.symm.trans (congrArg _ q)).trans rfl
            have HG' := Lib.hid HG
            have cU : Hid (∀ W, Vars W → Calls Tryd.prog 114 #[.string (s.extract 5 (min 7 (s.size : Int)).toNat), .int .i64 10, .int .i64 8] W fun e w' => (∃ N, e = .returned (.tuple #[.int .u64 0, .iface 208 (.pointer (some ⟨N, 0, none⟩))])) ∧ Below W.heap.size W w') := fun W h => puint_no _ W hD hu h
            clear HR hbl hD hne hu hc h1 HN HG
            go_wp2_with fail
            refine (cU.out _ hv1).mono ?_
            rintro e w1 ⟨⟨N, rfl⟩, hc1⟩
            have hb2 := hb.trans (hc1.mono hb.size)
            clear hc1 hb cU
            go_wp2_with fail
            go_ret2
            exact ⟨by rw [HG'.out]; rfl, hb2⟩
        · have h1i : (s.size : Int) ≤ 5 := by omega
          have HG : Hid (P20.fin (P4.bl s) (some acc) = R) := by
            have q : (P4.bl s).drop (1 + 2 * 2) = [] := List.drop_eq_nil_of_le (by rw [P4.bl_len]; omega)
            have q2 : P20.pv false (P20.units.drop 2) acc ((P4.bl s).drop (1 + 2 * 2)) = some acc := by rw [q]; exact P20.pv_nil _ _ _
            exact Lib.hid ((congrArg _ q2.symm).trans HR.out)
          clear HR h1
          go_wp2_with fail
          go_meet
          exact ⟨acc, rfl, ha0, ha1, HG, hb⟩
      · have HG : Hid (P20.fin (P4.bl s) (some acc) = R) := Lib.hid HR.out
        clear HR hk0 hk1 hk2
        go_wp2_with fail
        go_meet
        exact ⟨acc, rfl, ha0, ha1, HG, hb⟩
  case rest =>
    obtain ⟨acc, rfl, ha0, ha1, HG, hb⟩ := hcut
    clear HR
    have cH := fun W => Tryd.strings_HasPrefix s ⟨#[45]⟩ W
    by_cases hz : s.size = 0
    · have hP : R = (0, 5) := by
        have : P4.bl s = [] := List.length_eq_zero_iff.mp (by rw [P4.bl_len]; exact hz)
        rw [← HG.out, this]; exact P20.fin_empty _
      have hnil : s.toList = [] := by rw [ByteArray.toList_eq]; exact List.length_eq_zero_iff.mp (by have := P4.bl_len s; rw [← this] at hz; exact hz)
      have HP := Lib.hid hP
      have CH := Lib.hid cH
      clear hP HG hz cH
      generalize Lib.hasPrefix s.data.toList (⟨#[45]⟩ : ByteArray).data.toList = B at CH
      cases B with
      | true =>
        go_wp2_with fail
        refine (CH.out _).mono ?_
        rintro e w1 ⟨rfl, rfl⟩
        go_wp2_with fail
        go_ret2
        exact ⟨by rw [HP.out]; rfl, hb⟩
      | false =>
        go_wp2_with fail
        refine (CH.out _).mono ?_
        rintro e w1 ⟨rfl, rfl⟩
        go_wp2_with fail
        go_ret2
        exact ⟨by rw [HP.out]; rfl, hb⟩
    · obtain ⟨n1, n2⟩ := s_ne (s := s) (by omega)
      have hne : P4.bl s ≠ [] := fun q => hz (by rw [← P4.bl_len, q]; rfl)
      have hm := fun q => P20.sgn_minus (s := P4.bl s) acc q
      have hp := fun q => P20.sgn_plus (s := P4.bl s) acc q
      have CH := Lib.hid cH
      clear hz cH
      generalize hB : Lib.hasPrefix s.data.toList (⟨#[45]⟩ : ByteArray).data.toList = B at CH
      cases B with
      | true =>
        have hy := hm hB
        have cT : Hid (∀ W, Calls Tryd.prog 24 #[.int .i64 (-acc)] W fun e w' => e = .returned (.string (str (P20.text (-acc)))) ∧ Below W.heap.size W w') := fun W => ntext_any (-acc) W (by omega) (by omega)
        by_cases he : P20.text (-acc) = P4.bl s
        · have HP := Lib.hid (HG.out.symm.trans (P20.fin_eq hne hy he))
          have hse : str (P20.text (-acc)) = s := by rw [he]; rfl
          rw [hse] at cT
          clear hm hp hne HG hB hy he hse
          go_wp2_with fail
          refine (CH.out _).mono ?_
          rintro e w1 ⟨rfl, rfl⟩
          go_wp2_with fail
          refine (cT.out _).mono ?_
          rintro e w2 ⟨rfl, hc2⟩
          have hb2 := hb.trans (hc2.mono hb.size)
          clear hc2 hb cT CH
          go_wp2_with fail
          go_ret2
          exact ⟨by rw [HP.out]; rfl, hb2⟩
        · have HP := Lib.hid (HG.out.symm.trans (P20.fin_ne hy he))
          have hse : ¬ str (P20.text (-acc)) = s := fun q => he (by rw [← q]; rfl)
          have e1 := eq_b _ _ hse
          have e2 := ne_b _ _ hse
          clear hm hp hne HG hB hy he hse
          generalize str (P20.text (-acc)) = T at cT e1 e2
          go_wp2_with fail
          refine (CH.out _).mono ?_
          rintro e w1 ⟨rfl, rfl⟩
          go_wp2_with fail
          refine (cT.out _).mono ?_
          rintro e w2 ⟨rfl, hc2⟩
          have hb2 := hb.trans (hc2.mono hb.size)
          clear hc2 hb cT CH
          go_wp2_with fail
          go_ret2
          exact ⟨by rw [HP.out]; rfl, hb2⟩
      | false =>
        have hy := hp hB
        have cT : Hid (∀ W, Calls Tryd.prog 24 #[.int .i64 acc] W fun e w' => e = .returned (.string (str (P20.text acc))) ∧ Below W.heap.size W w') := fun W => ntext_any acc W (by omega) (by omega)
        by_cases he : P20.text acc = P4.bl s
        · have HP := Lib.hid (HG.out.symm.trans (P20.fin_eq hne hy he))
          have hse : str (P20.text acc) = s := by rw [he]; rfl
          rw [hse] at cT
          clear hm hp hne HG hB hy he hse
          go_wp2_with fail
          refine (CH.out _).mono ?_
          rintro e w1 ⟨rfl, rfl⟩
          go_wp2_with fail
          refine (cT.out _).mono ?_
          rintro e w2 ⟨rfl, hc2⟩
          have hb2 := hb.trans (hc2.mono hb.size)
          clear hc2 hb cT CH
          go_wp2_with fail
          go_ret2
          exact ⟨by rw [HP.out]; rfl, hb2⟩
        · have HP := Lib.hid (HG.out.symm.trans (P20.fin_ne hy he))
          have hse : ¬ str (P20.text acc) = s := fun q => he (by rw [← q]; rfl)
          have e1 := eq_b _ _ hse
          have e2 := ne_b _ _ hse
          clear hm hp hne HG hB hy he hse
          generalize str (P20.text acc) = T at cT e1 e2
          go_wp2_with fail
          refine (CH.out _).mono ?_
          rintro e w1 ⟨rfl, rfl⟩
          go_wp2_with fail
          refine (cT.out _).mono ?_
          rintro e w2 ⟨rfl, hc2⟩
          have hb2 := hb.trans (hc2.mono hb.size)
          clear hc2 hb cT CH
          go_wp2_with fail
          go_ret2
          exact ⟨by rw [HP.out]; rfl, hb2⟩
end Go.Proofs.YtlideagcmhlkeaaDoor
