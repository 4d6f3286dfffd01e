/- Plain mathematics of numeric abbreviations (chapter 20): an offset's text, what a text is read as, and that they are each other's inverses. -/
import Derived.Test.YtmhciidliicheaaDoorPlain4e
namespace Go.Proofs.YtmhciidliicheaaDoor.P20

/-- the digits of an amount -/
def textN (n : Nat) : List UInt8 := P4.two (n / 3600) ++ (if n % 3600 = 0 then [] else P4.two (n / 60 % 60)) ++ (if n % 60 = 0 then [] else P4.two (n % 60))
def text (x : Int) : List UInt8 := if x ≤ -86400 ∨ 86400 ≤ x then [] else (if x < 0 then 45 else 43) :: textN x.natAbs
/-- the value of one or two bytes; strict: of two alone -/
def chunk (st : Bool) (c : List UInt8) : Option Int := if c.all P4.isD = true ∧ (st = true → c.length = 2) then some (P4.val c) else none
/-- the sum of the parts -/
def pv (st : Bool) : List Int → Int → List UInt8 → Option Int
  | [], acc, _ => some acc
  | u :: us, acc, r => if r = [] then some acc else
    match chunk st (r.take 2) with
    | none => none
    | some v => pv st us (acc + v * u) (r.drop 2)
def units : List Int := [3600, 60, 1]
def sgn (s : List UInt8) (x : Int) : Int := if s[0]? = some 45 then -x else x
def fin (s : List UInt8) : Option Int → Int × Int
  | none => (0, 5)
  | some x => if s ≠ [] ∧ text (sgn s x) = s then (sgn s x, 0) else (0, 5)
theorem fin_some (s : List UInt8) (x : Int) : fin s (some x) = if s ≠ [] ∧ text (sgn s x) = s then (sgn s x, 0) else (0, 5) := rfl
theorem fin_none (s : List UInt8) : fin s none = (0, 5) := rfl
def parseB (st : Bool) (s : List UInt8) : Int × Int := fin s (pv st units 0 (s.drop 1))
def parse (s : List UInt8) : Int × Int := parseB true s

theorem textN_len (n : Nat) : (textN n).length = 2 ∨ (textN n).length = 4 ∨ (textN n).length = 6 := by
  unfold textN
  have h2 : ∀ k, (P4.two k).length = 2 := fun _ => rfl
  by_cases h : n % 3600 = 0
  · rw [if_pos h, if_pos (by omega)]; left; simp [h2]
  · rw [if_neg h]
    by_cases h' : n % 60 = 0
    · rw [if_pos h']; right; left; simp [h2]
    · rw [if_neg h']; right; right; simp [h2]
theorem text_len (x : Int) : (text x).length = 0 ∨ (text x).length = 3 ∨ (text x).length = 5 ∨ (text x).length = 7 := by
  unfold text
  split
  · left; rfl
  · have := textN_len x.natAbs
    simp only [List.length_cons]; omega
theorem pv_eq (us : List Int) : ∀ (acc : Int) (r : List UInt8), pv false us acc r = pv true us acc r ∨ (r.length % 2 = 1 ∧ pv true us acc r = none) := by
  induction us with
  | nil => intro acc r; exact .inl rfl
  | cons u us ih =>
    intro acc r
    match r with
    | [] => exact .inl rfl
    | [a] =>
      right
      refine ⟨rfl, ?_⟩
      unfold pv
      rw [if_neg (by simp)]
      have : chunk true (List.take 2 [a]) = none := by
        unfold chunk
        rw [if_neg]
        rintro ⟨_, h⟩
        exact absurd (h rfl) (by simp)
      rw [this]
    | a :: b :: r =>
      have hc : chunk false (List.take 2 (a :: b :: r)) = chunk true (List.take 2 (a :: b :: r)) := by
        unfold chunk; simp
      unfold pv
      rw [if_neg (by simp), if_neg (by simp), hc]
      cases chunk true (List.take 2 (a :: b :: r)) with
      | none => exact .inl rfl
      | some v =>
        rcases ih (acc + v * u) r with h | ⟨h1, h2⟩
        · exact .inl h
        · exact .inr ⟨by simp only [List.length_cons]; omega, h2⟩
theorem parse_loose (s : List UInt8) : parseB false s = parse s := by
  unfold parse parseB
  rcases pv_eq units 0 (s.drop 1) with h | ⟨h1, h2⟩
  · rw [h]
  · rw [h2]
    cases h : pv false units 0 (s.drop 1) with
    | none => rfl
    | some x =>
      rw [fin_some, fin_none, if_neg]
      rintro ⟨_, e⟩
      have hl := text_len (sgn s x)
      rw [e] at hl
      rw [List.length_drop] at h1
      omega
theorem fin_cases (s : List UInt8) (o : Option Int) : (∃ y, fin s o = (y, 0) ∧ text y = s ∧ s ≠ []) ∨ fin s o = (0, 5) := by
  cases o with
  | none => exact .inr rfl
  | some x =>
    rw [fin_some]
    by_cases h : s ≠ [] ∧ text (sgn s x) = s
    · rw [if_pos h]; exact .inl ⟨_, rfl, h.2, h.1⟩
    · rw [if_neg h]; exact .inr rfl
theorem text_bd {y : Int} (h : text y ≠ []) : -86399 ≤ y ∧ y ≤ 86399 := by
  unfold text at h
  split at h
  · exact absurd rfl h
  · omega
theorem parse_cases (s : List UInt8) : (∃ y, parse s = (y, 0) ∧ text y = s ∧ s ≠ [] ∧ -86399 ≤ y ∧ y ≤ 86399) ∨ parse s = (0, 5) := by
  rcases fin_cases s (pv true units 0 (s.drop 1)) with ⟨y, h, e, hn⟩ | h
  · exact .inl ⟨y, h, e, hn, (text_bd (by rw [e]; exact hn)).1, (text_bd (by rw [e]; exact hn)).2⟩
  · exact .inr h
theorem chunk_two (st : Bool) (k : Nat) (hk : k < 100) (r : List UInt8) : chunk st ((P4.two k ++ r).take 2) = some (k : Int) := by
  have e : (P4.two k ++ r).take 2 = P4.two k := by simp [P4.two]
  rw [e]
  have h1 : (UInt8.ofNat (48 + k / 10)).toNat = 48 + k / 10 := by rw [UInt8.toNat_ofNat']; omega
  have h2 : (UInt8.ofNat (48 + k % 10)).toNat = 48 + k % 10 := by rw [UInt8.toNat_ofNat']; omega
  unfold chunk
  rw [if_pos]
  · simp only [P4.two, P4.val, P4.valFrom, h1, h2]
    congr 1
    omega
  · refine ⟨?_, fun _ => rfl⟩
    simp only [P4.two, List.all_cons, List.all_nil, Bool.and_true, Bool.and_eq_true, P4.isD, decide_eq_true_eq, h1, h2]
    omega
theorem pv_two (st : Bool) (u : Int) (us : List Int) (acc : Int) (k : Nat) (hk : k < 100) (r : List UInt8) : pv st (u :: us) acc (P4.two k ++ r) = pv st us (acc + k * u) r := by
  have e : (P4.two k ++ r).drop 2 = r := by simp [P4.two]
  rw [pv, if_neg (by simp [P4.two]), chunk_two st k hk r, e]
theorem pv_nil (st : Bool) (us : List Int) (acc : Int) : pv st us acc [] = some acc := by
  cases us with
  | nil => rfl
  | cons u us => rw [pv, if_pos rfl]
theorem pv_h (st : Bool) (h : Nat) (hh : h < 100) : pv st units 0 (P4.two h) = some (3600 * h) := by
  have := pv_two st 3600 [60, 1] 0 h hh []
  rw [List.append_nil] at this
  rw [units, this, pv_nil]; congr 1; omega
theorem pv_hm (st : Bool) (h m : Nat) (hh : h < 100) (hm : m < 100) : pv st units 0 (P4.two h ++ P4.two m) = some (3600 * h + 60 * m) := by
  have := pv_two st 60 [1] (0 + h * 3600) m hm []
  rw [List.append_nil] at this
  rw [units, pv_two st _ _ _ h hh, this, pv_nil]; congr 1; omega
theorem pv_hms (st : Bool) (h m s : Nat) (hh : h < 100) (hm : m < 100) (hs : s < 100) : pv st units 0 (P4.two h ++ (P4.two m ++ P4.two s)) = some (3600 * h + 60 * m + s) := by
  have := pv_two st 1 [] (0 + h * 3600 + m * 60) s hs []
  rw [List.append_nil] at this
  rw [units, pv_two st _ _ _ h hh, pv_two st _ _ _ m hm, this, pv_nil]; congr 1; omega
theorem textN_pv (n : Nat) (h : n ≤ 86399) : pv true units 0 (textN n) = some (n : Int) := by
  unfold textN
  by_cases h1 : n % 3600 = 0
  · rw [if_pos h1, if_pos (by omega), List.append_nil, List.append_nil, pv_h true _ (by omega)]; exact congrArg some (by omega)
  · rw [if_neg h1]
    by_cases h2 : n % 60 = 0
    · rw [if_pos h2, List.append_nil, pv_hm true _ _ (by omega) (by omega)]; exact congrArg some (by omega)
    · rw [if_neg h2, List.append_assoc, pv_hms true _ _ _ (by omega) (by omega) (by omega)]; exact congrArg some (by omega)
theorem text_in {x : Int} (h0 : -86399 ≤ x) (h1 : x ≤ 86399) : text x = (if x < 0 then 45 else 43) :: textN x.natAbs := if_neg (by omega)
theorem text_out {x : Int} (h : x ≤ -86400 ∨ 86400 ≤ x) : text x = [] := if_pos h
theorem parse_text {x : Int} (h0 : -86399 ≤ x) (h1 : x ≤ 86399) : parse (text x) = (x, 0) := by
  have ht := text_in h0 h1
  unfold parse parseB
  rw [show (text x).drop 1 = textN x.natAbs by rw [ht]; rfl, textN_pv _ (by omega)]
  have hs : sgn (text x) (x.natAbs : Int) = x := by
    unfold sgn
    rw [ht]
    by_cases hx : x < 0
    · rw [if_pos hx, if_pos (by rfl)]; omega
    · rw [if_neg hx, if_neg (by simp)]; omega
  rw [fin_some, hs, if_pos ⟨by rw [ht]; simp, rfl⟩]
theorem text_inj {x y : Int} (h0 : -86399 ≤ x) (h1 : x ≤ 86399) (k0 : -86399 ≤ y) (k1 : y ≤ 86399) (h : text x = text y) : x = y := by
  have p := parse_text h0 h1
  rw [h, parse_text k0 k1] at p
  exact (Prod.mk.inj p).1.symm
theorem text_ne {x : Int} (h0 : -86399 ≤ x) (h1 : x ≤ 86399) : text x ≠ [] := by rw [text_in h0 h1]; simp
end Go.Proofs.YtmhciidliicheaaDoor.P20
