/- Plain mathematics of chapter 4, the program's way of reading an amount: part by part, from what is left of the string; it is the document's. -/
import Derived.Test.YtoabengifbokdaaDoorPlain4
import Derived.Lib.ParseIntB
namespace Go.Proofs.YtoabengifbokdaaDoor.P4

/-- strconv.ParseInt of a few digits -/
theorem parseUintM_digits (M : Nat) : ∀ (l : List UInt8) (acc k : Nat), l.length ≤ k → acc < 10 ^ (12 - k) → k ≤ 12 → 1000000000000 ≤ M → (∀ c ∈ l, isD c = true) → ∃ u : Nat, Lib.parseUintM M acc l = .ok u ∧ (u : Int) = valFrom acc l ∧ u < 1000000000000
  | [], acc, k, _, h, hk, hM, _ => ⟨acc, rfl, rfl, Nat.lt_of_lt_of_le h (Nat.pow_le_pow_right (by omega) (by omega : 12 - k ≤ 12))⟩
  | c :: r, acc, 0, hl, _, _, _, _ => by simp at hl
  | c :: r, acc, k + 1, hl, h, hk, hM, hd => by
    have hc := hd c (by simp)
    simp only [isD, decide_eq_true_eq] at hc
    have hp : (10 : Nat) ^ (12 - k) = 10 * 10 ^ (12 - (k + 1)) := by
      rw [show 12 - k = (12 - (k + 1)) + 1 by omega, Nat.pow_succ]; omega
    have hle : (10 : Nat) ^ (12 - k) ≤ 10 ^ 12 := Nat.pow_le_pow_right (by omega) (by omega)
    have h' : acc * 10 + (c.toNat - 48) < 10 ^ (12 - k) := by omega
    obtain ⟨u, e1, e2, e3⟩ := parseUintM_digits M r (acc * 10 + (c.toNat - 48)) k (by simpa using hl) h' (by omega) hM (fun x hx => hd x (by simp [hx]))
    refine ⟨u, ?_, ?_, e3⟩
    · rw [Lib.parseUintM, if_pos hc, if_neg (by omega), if_neg (by omega)]; exact e1
    · rw [e2, valFrom]; congr 1; omega
theorem parseInt_digits (l : List UInt8) (h0 : l ≠ []) (hl : l.length ≤ 3) (hd : ∀ c ∈ l, isD c = true) : Lib.parseIntB 64 l = .ok (val l) := by
  match l, h0 with
  | c :: r, _ =>
    have hc := hd c (by simp)
    simp only [isD, decide_eq_true_eq] at hc
    obtain ⟨u, e1, e2, e3⟩ := parseUintM_digits (2 ^ 64 - 1) (c :: r) 0 3 hl (by omega) (by omega) (by omega) hd
    have e0 : Lib.parseUintB 64 (c :: r) = .ok u := by rw [Lib.parseUintB, if_neg (by simp)]; exact e1
    simp only [Lib.parseIntB]
    rw [if_neg (by omega), e0]
    simp only
    rw [if_neg (by omega), if_neg (by omega), if_neg (by omega), e2]
    rfl


/-- how many digits are taken from the front, at most n -/
def cnt (l : List UInt8) (n : Nat) : Nat := min n (l.takeWhile isD).length
/-- the end: what is left, and the sum -/
def fin (minus : Bool) (x : Int) (rest : List UInt8) : Int × Int :=
  if rest ≠ [] ∨ (minus = true ∧ x = 0) then (0, 5) else if 604799 < x then (0, 3) else (if minus then -x else x, 0)
/-- a part behind the hours: a colon and two digits below 60 -/
def part (rest : List UInt8) : Option (Int × List UInt8) :=
  if rest[0]? ≠ some 58 then none
  else let r := rest.drop 1
    if cnt r 2 ≠ 2 ∨ 59 < val (r.take 2) then none else some (val (r.take 2), r.drop 2)
def from2 (minus : Bool) (h m : Int) (rest : List UInt8) : Int × Int :=
  if rest = [] then fin minus (3600 * h + 60 * m) [] else match part rest with
    | none => (0, 5)
    | some (s, r) => fin minus (3600 * h + 60 * m + s) r
def from1 (minus : Bool) (h : Int) (rest : List UInt8) : Int × Int :=
  if rest = [] then fin minus (3600 * h) [] else match part rest with
    | none => (0, 5)
    | some (m, r) => from2 minus h m r
def from0 (minus : Bool) (rest : List UInt8) : Int × Int :=
  if cnt rest 3 = 0 ∨ (1 < cnt rest 3 ∧ rest[0]? = some 48) then (0, 5) else from1 minus (val (rest.take (cnt rest 3))) (rest.drop (cnt rest 3))

theorem cnt_two (r : List UInt8) : cnt r 2 = 2 ↔ ∃ a b t, r = a :: b :: t ∧ isD a = true ∧ isD b = true := by
  unfold cnt
  match r with
  | [] => simp
  | [x] => by_cases hx : isD x = true <;> simp [List.takeWhile, hx]
  | x :: y :: t =>
    by_cases hx : isD x = true
    · by_cases hy : isD y = true
      · simp only [List.takeWhile, hx, hy, List.length_cons]
        constructor
        · intro _; exact ⟨x, y, t, rfl, hx, hy⟩
        · intro _; omega
      · simp [List.takeWhile, hx, hy]
    · simp [List.takeWhile, hx]
/-- a part, as the reference reads it -/
theorem part_pair (rest : List UInt8) : part rest = if rest[0]? ≠ some 58 then none else (pairL (rest.drop 1)).map fun m => (m, rest.drop 3) := by
  unfold part
  by_cases h : rest[0]? ≠ some 58
  · rw [if_pos h, if_pos h]
  · rw [if_neg h, if_neg h]
    simp only
    by_cases h2 : cnt (rest.drop 1) 2 = 2
    · obtain ⟨a, b, t, e, ha, hb⟩ := (cnt_two _).1 h2
      have e3 : rest.drop 3 = t := by rw [show 3 = 1 + 2 from rfl, ← List.drop_drop, e]; rfl
      rw [e] at h2
      simp only [e, e3, pairL, ha, hb, Bool.true_and, List.take, List.drop]
      have hv : val [a, b] = 10 * ((a.toNat : Int) - 48) + ((b.toNat : Int) - 48) := by simp [val, valFrom]
      simp only [isD, decide_eq_true_eq] at ha hb
      rw [hv]
      by_cases h5 : a.toNat ≤ 53
      · rw [if_neg (by rintro (q | q) <;> omega), if_pos (by simp [h5])]; rfl
      · rw [if_pos (.inr (by omega)), if_neg (by simp [h5])]; rfl
    · rw [if_pos (.inl h2)]
      have : pairL (rest.drop 1) = none := by
        match hd : rest.drop 1 with
        | [] => rfl
        | [x] => rfl
        | a :: b :: t =>
          simp only [pairL]
          rw [if_neg]
          intro hc
          simp only [Bool.and_eq_true] at hc
          exact h2 ((cnt_two _).2 ⟨a, b, t, hd, hc.1.1, hc.1.2⟩)
      rw [this]; rfl

theorem fin_left (minus : Bool) (x : Int) (rest : List UInt8) (h : rest ≠ []) : fin minus x rest = (0, 5) := by rw [fin, if_pos (.inl h)]
/-- the program's way is the document's -/
theorem from0_amount (minus : Bool) (l : List UInt8) : from0 minus l = match amount l with
    | none => (0, 5)
    | some x => fin minus x [] := by
  unfold from0 amount
  simp only
  generalize hk : (l.takeWhile isD).length = k
  have hle : k ≤ l.length := by rw [← hk]; exact (List.takeWhile_prefix isD).length_le
  have hc : cnt l 3 = min 3 k := by rw [cnt, hk]
  rw [hc]
  by_cases h3 : 3 < k
  · have hor : k = 0 ∨ 3 < k ∨ 1 < k ∧ l[0]? = some 48 := .inr (.inl h3)
    rw [if_pos hor]
    by_cases h0 : min 3 k = 0 ∨ (1 < min 3 k ∧ l[0]? = some 48)
    · rw [if_pos h0]
    · rw [if_neg h0, show min 3 k = 3 by omega]
      unfold from1
      have hlen : 3 < l.length := by omega
      have hget : (l.drop 3)[0]? = some (l[3]'hlen) := by rw [List.getElem?_drop]; exact List.getElem?_eq_getElem hlen
      have hdig := takeWhile_isD l 3 (by omega) (l[3]'hlen) (List.getElem?_eq_getElem hlen)
      have hne : l.drop 3 ≠ [] := by intro e; rw [e] at hget; cases hget
      rw [if_neg hne, part_pair, if_pos]
      rw [hget]
      intro e
      injection e with e
      rw [e] at hdig
      cases hdig
  · rw [show min 3 k = k by omega]
    by_cases h0 : k = 0 ∨ (1 < k ∧ l[0]? = some 48)
    · rw [if_pos h0, if_pos (by rcases h0 with a | a; exact .inl a; exact .inr (.inr a))]
    · rw [if_neg h0, if_neg (by rintro (a | a | a); exact h0 (.inl a); exact h3 a; exact h0 (.inr a))]
      unfold from1
      by_cases hl : l.length = k
      · rw [if_pos hl, if_pos (by rw [← hl]; simp)]
      · have hne : l.drop k ≠ [] := by intro e; have := congrArg List.length e; simp at this; omega
        rw [if_neg hl, if_neg hne, part_pair]
        have hg : (l.drop k)[0]? = l[k]? := by rw [List.getElem?_drop]; rfl
        rw [hg]
        by_cases h58 : l[k]? ≠ some 58
        · rw [if_pos h58, if_pos h58]
        · rw [if_neg h58, if_neg h58, List.drop_drop, List.drop_drop]
          cases hp : pairL (l.drop (k + 1)) with
          | none => rfl
          | some m =>
            simp only [Option.map]
            unfold from2
            by_cases hl3 : l.length = k + 3
            · rw [if_pos hl3, if_pos (by rw [← hl3]; simp)]
            · by_cases hs : l.length < k + 3
              · exfalso
                have hb := pr_short l (k + 1) (by omega)
                rw [pr, hp] at hb
                have := pairL_bd hp
                simp at hb
                omega
              · have hne3 : l.drop (k + 3) ≠ [] := by intro e; have := congrArg List.length e; simp at this; omega
                rw [if_neg hl3, if_neg hne3, part_pair]
                have hg3 : (l.drop (k + 3))[0]? = l[k + 3]? := by rw [List.getElem?_drop]
                rw [hg3]
                by_cases h583 : l[k + 3]? ≠ some 58
                · rw [if_pos h583, if_pos h583]
                · rw [if_neg h583, if_neg h583, List.drop_drop, List.drop_drop]
                  cases hq : pairL (l.drop (k + 4)) with
                  | none => rfl
                  | some y =>
                    simp only [Option.map]
                    by_cases hl6 : l.length = k + 6
                    · rw [if_pos hl6, show l.drop (k + 3 + 3) = [] by rw [show k + 3 + 3 = l.length by omega]; simp]
                    · rw [if_neg hl6]
                      by_cases hs6 : l.length < k + 6
                      · exfalso
                        have hb := pr_short l (k + 4) (by omega)
                        rw [pr, hq] at hb
                        have := pairL_bd hq
                        simp at hb
                        omega
                      · rw [fin_left]
                        intro e; have := congrArg List.length e; simp at this; omega
theorem from0_parse (l : List UInt8) : parse l = from0 (minusB l) (if minusB l then l.drop 1 else l) := by
  rw [from0_amount]
  unfold parse
  simp only
  show (match amount (if minusB l = true then l.drop 1 else l) with | none => _ | some x => _) = _
  cases amount (if minusB l = true then l.drop 1 else l) with
  | none => rfl
  | some x =>
    simp only [fin, ne_eq, not_true_eq_false, false_or]
    show (if (minusB l && x == 0) = true then _ else _) = _
    by_cases hz : minusB l = true ∧ x = 0
    · rw [if_pos hz, if_pos (by simp [hz.1, hz.2])]
    · rw [if_neg hz, if_neg (by simpa using hz)]
      rfl
end Go.Proofs.YtoabengifbokdaaDoor.P4
