/- Plain mathematics of amounts of time (chapter 4): what a string of bytes is read as, what a number is printed as; no program in sight. -/
import Derived.Lib.ItoaNum
import Derived.Lib.IndexBytes
namespace Go.Proofs.YtmhciidliicheaaDoor.P4

/-- a decimal digit -/
def isD (c : UInt8) : Bool := decide (48 ≤ c.toNat ∧ c.toNat ≤ 57)
/-- the reference's digit -/
def dig (c : Int) : Int := if 48 ≤ c ∧ c ≤ 57 then c - 48 else -1
/-- the number of a list of digits, on top of a number -/
def valFrom (a : Int) : List UInt8 → Int
  | [] => a
  | c :: l => valFrom (10 * a + ((c.toNat : Int) - 48)) l
def val (l : List UInt8) : Int := valFrom 0 l
/-- a colon and two digits below 60 -/
def pairL : List UInt8 → Option Int
  | a :: b :: _ => if isD a && isD b && decide (a.toNat ≤ 53) then some (10 * ((a.toNat : Int) - 48) + ((b.toNat : Int) - 48)) else none
  | _ => none
/-- the amount of a string without a sign -/
def amount (l : List UInt8) : Option Int :=
  let k := (l.takeWhile isD).length
  if k = 0 ∨ 3 < k ∨ (1 < k ∧ l[0]? = some 48) then none
  else if l.length = k then some (3600 * val (l.take k))
  else if l[k]? ≠ some 58 then none
  else match pairL (l.drop (k + 1)) with
    | none => none
    | some m =>
      if l.length = k + 3 then some (3600 * val (l.take k) + 60 * m)
      else if l[k + 3]? ≠ some 58 then none
      else match pairL (l.drop (k + 4)) with
        | none => none
        | some s => if l.length = k + 6 then some (3600 * val (l.take k) + 60 * m + s) else none
/-- what a string is read as: the amount, and the error's number -/
def parse (l : List UInt8) : Int × Int :=
  let minus := l[0]? == some 45
  match amount (if minus then l.drop 1 else l) with
  | none => (0, 5)
  | some x => if minus && x == 0 then (0, 5) else if 604799 < x then (0, 3) else (if minus then -x else x, 0)

/-- two digits -/
def two (n : Nat) : List UInt8 := [UInt8.ofNat (48 + n / 10), UInt8.ofNat (48 + n % 10)]
/-- the string of an amount from 0 on -/
def showN (n : Nat) : List UInt8 :=
  Lib.decDigits (n / 3600) ++ (58 :: two (n / 60 % 60)) ++ (if n % 60 = 0 then [] else 58 :: two (n % 60))
/-- the string of a number, and the error's number -/
def print (x : Int) : List UInt8 × Int :=
  if x < -604799 ∨ 604799 < x then ([], 3)
  else if x < 0 then (45 :: showN x.natAbs, 0) else (showN x.toNat, 0)

/-- the bytes of a string -/
abbrev bl (s : ByteArray) : List UInt8 := s.data.toList
theorem bl_len (s : ByteArray) : (bl s).length = s.size := by simp [bl]
theorem bl_get (s : ByteArray) (k : Nat) (h : k < s.size) : (bl s)[k]? = some (s[k]'h) := by
  have h' : k < (bl s).length := by rw [bl_len]; exact h
  rw [List.getElem?_eq_getElem h']; rfl
/-- the reference's pair, -1 for none -/
def pr (l : List UInt8) (k : Nat) : Int := (pairL (l.drop k)).getD (-1)
theorem pairL_bd {l : List UInt8} {x : Int} (h : pairL l = some x) : 0 ≤ x ∧ x ≤ 59 := by
  unfold pairL at h
  split at h
  · rename_i a b r
    split at h
    · rename_i hc
      simp only [isD, Bool.and_eq_true, decide_eq_true_eq] at hc
      injection h with h
      omega
    · cases h
  · cases h
theorem pr_bd (l : List UInt8) (k : Nat) : -1 ≤ pr l k ∧ pr l k ≤ 59 := by
  unfold pr
  cases h : pairL (l.drop k) with
  | none => simp
  | some x => have := pairL_bd h; simp; omega
theorem pr_none {l : List UInt8} {k : Nat} (h : pr l k < 0) : pairL (l.drop k) = none := by
  unfold pr at h
  cases hx : pairL (l.drop k) with
  | none => rfl
  | some x => have := pairL_bd hx; rw [hx] at h; simp at h; omega
theorem pr_some {l : List UInt8} {k : Nat} (h : 0 ≤ pr l k) : pairL (l.drop k) = some (pr l k) := by
  unfold pr at h ⊢
  cases hx : pairL (l.drop k) with
  | none => rw [hx] at h; simp at h
  | some x => rfl
theorem pr_short (l : List UInt8) (k : Nat) (h : l.length < k + 2) : pr l k = -1 := by
  unfold pr
  have : (l.drop k).length < 2 := by rw [List.length_drop]; omega
  match hd : l.drop k, this with
  | [], _ => rfl
  | [_], _ => rfl
theorem pr_long (l : List UInt8) (k : Nat) (a b : UInt8) (ha : l[k]? = some a) (hb : l[k+1]? = some b) :
    pr l k = if 48 ≤ (a.toNat : Int) ∧ (a.toNat : Int) ≤ 53 ∧ 48 ≤ (b.toNat : Int) ∧ (b.toNat : Int) ≤ 57 then 10 * ((a.toNat : Int) - 48) + ((b.toNat : Int) - 48) else -1 := by
  unfold pr
  have h0 : (l.drop k)[0]? = some a := by rw [List.getElem?_drop]; simpa using ha
  have h1 : (l.drop k)[1]? = some b := by rw [List.getElem?_drop]; exact hb
  match hd : l.drop k with
  | [] => rw [hd] at h0; simp at h0
  | [x] => rw [hd] at h1; simp at h1
  | x :: y :: r =>
    rw [hd] at h0 h1
    simp at h0 h1
    subst h0 h1
    show (if isD x && isD y && decide (x.toNat ≤ 53) then some (10 * ((x.toNat : Int) - 48) + ((y.toNat : Int) - 48)) else none).getD (-1) = _
    by_cases hc : 48 ≤ (x.toNat : Int) ∧ (x.toNat : Int) ≤ 53 ∧ 48 ≤ (y.toNat : Int) ∧ (y.toNat : Int) ≤ 57
    · rw [if_pos hc, if_pos (by simp [isD]; omega)]; rfl
    · rw [if_neg hc, if_neg (by simp [isD]; omega)]; rfl

/-- how many digits stand in front -/
theorem lead_eq (l : List UInt8) (k : Nat) (hk : k ≤ l.length) (hd : ∀ i, i < k → ∀ c, l[i]? = some c → isD c = true) (he : ∀ c, l[k]? = some c → isD c = false) :
    (l.takeWhile isD).length = k := by
  induction l generalizing k with
  | nil => simp at hk; subst hk; rfl
  | cons x r ih =>
    cases k with
    | zero => have := he x (by simp); simp [List.takeWhile, this]
    | succ k =>
      have hx := hd 0 (by omega) x (by simp)
      simp only [List.takeWhile, hx, List.length_cons]
      rw [ih k (by simpa using hk) (fun i hi c hc => hd (i + 1) (by omega) c (by simpa using hc)) (fun c hc => he c (by simpa using hc))]
theorem lead_ge (l : List UInt8) (k : Nat) (hk : k ≤ l.length) (hd : ∀ i, i < k → ∀ c, l[i]? = some c → isD c = true) : k ≤ (l.takeWhile isD).length := by
  induction l generalizing k with
  | nil => simp at hk; omega
  | cons x r ih =>
    cases k with
    | zero => omega
    | succ k =>
      have hx := hd 0 (by omega) x (by simp)
      simp only [List.takeWhile, hx, List.length_cons]
      have := ih k (by simpa using hk) (fun i hi c hc => hd (i + 1) (by omega) c (by simpa using hc))
      omega
theorem valFrom_snoc (a : Int) (l : List UInt8) (c : UInt8) : valFrom a (l ++ [c]) = 10 * valFrom a l + ((c.toNat : Int) - 48) := by
  induction l generalizing a with
  | nil => rfl
  | cons x r ih => simp only [List.cons_append, valFrom]; exact ih _
theorem val_snoc (l : List UInt8) (c : UInt8) : val (l ++ [c]) = 10 * val l + ((c.toNat : Int) - 48) := valFrom_snoc 0 l c
theorem val_take (l : List UInt8) (k : Nat) (c : UInt8) (h : l[k]? = some c) : val (l.take (k + 1)) = 10 * val (l.take k) + ((c.toNat : Int) - 48) := by
  rw [List.take_add_one, h]; exact val_snoc _ _
theorem val_bd (l : List UInt8) (k : Nat) (hk : k ≤ 4) (hd : ∀ i, i < k → ∀ c, l[i]? = some c → isD c = true) (hl : k ≤ l.length) : 0 ≤ val (l.take k) ∧ val (l.take k) ≤ 9999 ∧ (k ≤ 3 → val (l.take k) ≤ 999) ∧ (k ≤ 2 → val (l.take k) ≤ 99) ∧ (k ≤ 1 → val (l.take k) ≤ 9) ∧ (k = 0 → val (l.take k) = 0) := by
  induction k with
  | zero => simp [val, valFrom]
  | succ k ih =>
    have h := ih (by omega) (fun i hi => hd i (by omega)) (by omega)
    have hc : l[k]? = some (l[k]'(by omega)) := List.getElem?_eq_getElem (by omega)
    have hdd := hd k (by omega) _ hc
    simp only [isD, decide_eq_true_eq] at hdd
    rw [val_take l k _ hc]
    obtain ⟨h1, h2, h3, h4, h5, h6⟩ := h
    refine ⟨?_, ?_, ?_, ?_, ?_, ?_⟩
    · omega
    · have := h3 (by omega); omega
    · intro q; have := h4 (by omega); omega
    · intro q; have := h5 (by omega); omega
    · intro q; have := h6 (by omega); omega
    · intro q; omega
/-- what the reference's form gives: the amount and whether there is one -/
def fv (l : List UInt8) : Int := (amount l).getD 0
def fb (l : List UInt8) : Bool := (amount l).isSome

/-- the first digits of a string are right: one to three, no zero ahead of another -/
def headB (l : List UInt8) (k : Nat) : Bool := decide (k ≠ 0 ∧ k ≤ 3 ∧ ¬ (1 < k ∧ l[0]? = some 48))
theorem headB_t {l : List UInt8} {k : Nat} (h : headB l k = true) : ¬ (k = 0 ∨ 3 < k ∨ 1 < k ∧ l[0]? = some 48) := by
  simp only [headB, decide_eq_true_eq] at h
  rintro (a | a | a)
  · exact h.1 a
  · omega
  · exact h.2.2 a
theorem headB_f {l : List UInt8} {k : Nat} (h : headB l k = false) : k = 0 ∨ 3 < k ∨ 1 < k ∧ l[0]? = some 48 := by
  simp only [headB, decide_eq_false_iff_not] at h
  by_cases a : k = 0
  · exact .inl a
  · by_cases b : 3 < k
    · exact .inr (.inl b)
    · by_cases c : 1 < k ∧ l[0]? = some 48
      · exact .inr (.inr c)
      · exact absurd ⟨a, by omega, c⟩ h
section
variable {l : List UInt8} {k : Nat} (hk : (l.takeWhile isD).length = k)
include hk
theorem am_no (h : headB l k = false) : amount l = none := by
  unfold amount
  simp only [hk]
  rw [if_pos (headB_f h)]
theorem am_h (h : headB l k = true) (hl : l.length = k) : amount l = some (3600 * val (l.take k)) := by
  unfold amount
  simp only [hk]
  rw [if_neg (headB_t h), if_pos hl]
theorem am_nc (hl : l.length ≠ k) (hc : l[k]? ≠ some 58) : amount l = none := by
  unfold amount
  simp only [hk]
  by_cases h0 : k = 0 ∨ 3 < k ∨ 1 < k ∧ l[0]? = some 48
  · rw [if_pos h0]
  · rw [if_neg h0, if_neg hl, if_pos hc]
theorem am_np (hl : l.length ≠ k) (hp : pr l (k + 1) < 0) : amount l = none := by
  unfold amount
  simp only [hk, pr_none hp]
  by_cases h0 : k = 0 ∨ 3 < k ∨ 1 < k ∧ l[0]? = some 48
  · rw [if_pos h0]
  · rw [if_neg h0, if_neg hl, ite_self]
theorem am_m (h : headB l k = true) (hl : l.length = k + 3) (hc : l[k]? = some 58) (hp : 0 ≤ pr l (k + 1)) : amount l = some (3600 * val (l.take k) + 60 * pr l (k + 1)) := by
  unfold amount
  simp only [hk]
  have hk0 : l.length ≠ k := by omega
  have hcc : ¬ (l[k]? ≠ some 58) := by simp [hc]
  rw [if_neg (headB_t h), if_neg hk0, if_neg hcc, pr_some hp]
  show (if l.length = k + 3 then _ else _) = _
  rw [if_pos hl]
theorem am_nc2 (hl : l.length ≠ k) (hl3 : l.length ≠ k + 3) (hc : l[k + 3]? ≠ some 58) : amount l = none := by
  unfold amount
  simp only [hk]
  by_cases h0 : k = 0 ∨ 3 < k ∨ 1 < k ∧ l[0]? = some 48
  · rw [if_pos h0]
  · rw [if_neg h0, if_neg hl]
    by_cases h1 : l[k]? ≠ some 58
    · rw [if_pos h1]
    · rw [if_neg h1]
      cases pairL (l.drop (k + 1)) with
      | none => rfl
      | some m =>
        show (if l.length = k + 3 then _ else _) = _
        rw [if_neg hl3, if_pos hc]
theorem am_np2 (hl : l.length ≠ k) (hl3 : l.length ≠ k + 3) (hp : pr l (k + 4) < 0) : amount l = none := by
  unfold amount
  simp only [hk]
  by_cases h0 : k = 0 ∨ 3 < k ∨ 1 < k ∧ l[0]? = some 48
  · rw [if_pos h0]
  · rw [if_neg h0, if_neg hl]
    by_cases h1 : l[k]? ≠ some 58
    · rw [if_pos h1]
    · rw [if_neg h1]
      cases pairL (l.drop (k + 1)) with
      | none => rfl
      | some m =>
        show (if l.length = k + 3 then _ else _) = _
        rw [if_neg hl3, pr_none hp, ite_self]
theorem am_nl (hl : l.length ≠ k) (hl3 : l.length ≠ k + 3) (hl6 : l.length ≠ k + 6) : amount l = none := by
  unfold amount
  simp only [hk]
  by_cases h0 : k = 0 ∨ 3 < k ∨ 1 < k ∧ l[0]? = some 48
  · rw [if_pos h0]
  · rw [if_neg h0, if_neg hl]
    by_cases h1 : l[k]? ≠ some 58
    · rw [if_pos h1]
    · rw [if_neg h1]
      cases pairL (l.drop (k + 1)) with
      | none => rfl
      | some m =>
        show (if l.length = k + 3 then _ else _) = _
        rw [if_neg hl3]
        by_cases h2 : l[k + 3]? ≠ some 58
        · rw [if_pos h2]
        · rw [if_neg h2]
          cases pairL (l.drop (k + 4)) with
          | none => rfl
          | some m => show (if l.length = k + 6 then _ else _) = _; rw [if_neg hl6]
theorem am_s (h : headB l k = true) (hl : l.length = k + 6) (hc : l[k]? = some 58) (hp : 0 ≤ pr l (k + 1)) (hc2 : l[k + 3]? = some 58) (hp2 : 0 ≤ pr l (k + 4)) :
    amount l = some (3600 * val (l.take k) + 60 * pr l (k + 1) + pr l (k + 4)) := by
  unfold amount
  simp only [hk]
  have hk0 : l.length ≠ k := by omega
  have hcc : ¬ (l[k]? ≠ some 58) := by simp [hc]
  have hcc2 : ¬ (l[k + 3]? ≠ some 58) := by simp [hc2]
  rw [if_neg (headB_t h), if_neg hk0, if_neg hcc, pr_some hp]
  show (if l.length = k + 3 then _ else _) = _
  rw [if_neg (by omega), if_neg hcc2, pr_some hp2]
  show (if l.length = k + 6 then _ else _) = _
  rw [if_pos hl]
end
theorem fv_none {l : List UInt8} (h : amount l = none) : fv l = 0 := by simp [fv, h]
theorem fb_none {l : List UInt8} (h : amount l = none) : fb l = false := by simp [fb, h]
theorem fv_some {l : List UInt8} {x : Int} (h : amount l = some x) : fv l = x := by simp [fv, h]
theorem fb_some {l : List UInt8} {x : Int} (h : amount l = some x) : fb l = true := by simp [fb, h]
theorem bl_extract1 (s : ByteArray) : bl (s.extract 1 s.size) = (bl s).drop 1 := Lib.extract_to_end s 1
def pv (l : List UInt8) : Int := (parse l).1
def pe (l : List UInt8) : Int := (parse l).2
/-- the first byte is a minus sign -/
def minusB (l : List UInt8) : Bool := l[0]? == some 45
theorem fv_nofb {l : List UInt8} (h : fb l = false) : amount l = none := by simpa [fb] using h
theorem fv_isfb {l : List UInt8} (h : fb l = true) : amount l = some (fv l) := by
  simp only [fb] at h
  cases hx : amount l with
  | none => rw [hx] at h; cases h
  | some x => simp [fv, hx]
theorem parse_none {l r : List UInt8} (hr : (if minusB l then l.drop 1 else l) = r) (h : fb r = false) : parse l = (0, 5) := by
  simp only [parse]
  rw [show (if (l[0]? == some 45) = true then l.drop 1 else l) = r from hr, fv_nofb h]
theorem parse_zero {l r : List UInt8} (hm : minusB l = true) (hr : l.drop 1 = r) (h : fb r = true) (hz : fv r = 0) : parse l = (0, 5) := by
  have hm' : (l[0]? == some 45) = true := hm
  simp only [parse, hm', if_true]
  rw [hr, fv_isfb h, hz]
  rfl
theorem parse_far {l r : List UInt8} (hr : (if minusB l then l.drop 1 else l) = r) (h : fb r = true) (hz : 604799 < fv r) : parse l = (0, 3) := by
  simp only [parse]
  rw [show (if (l[0]? == some 45) = true then l.drop 1 else l) = r from hr, fv_isfb h]
  show (if (_ && fv r == 0) = true then _ else _) = _
  rw [if_neg, if_pos hz]
  simp
  omega
theorem parse_minus {l r : List UInt8} (hm : minusB l = true) (hr : l.drop 1 = r) (h : fb r = true) (hz : fv r ≠ 0) (hz' : fv r ≤ 604799) : parse l = (- fv r, 0) := by
  have hm' : (l[0]? == some 45) = true := hm
  simp only [parse, hm', if_true]
  rw [hr, fv_isfb h]
  show (if (true && fv r == 0) = true then _ else _) = _
  rw [if_neg (by simp; omega), if_neg (by omega)]
theorem parse_plus {l : List UInt8} (hm : minusB l = false) (h : fb l = true) (hz' : fv l ≤ 604799) : parse l = (fv l, 0) := by
  have hm' : (l[0]? == some 45) = false := hm
  simp only [parse, hm']
  rw [if_neg (by simp), fv_isfb h]
  show (if (false && fv l == 0) = true then _ else if 604799 < fv l then _ else (if false = true then -fv l else fv l, 0)) = _
  rw [if_neg (by simp), if_neg (by omega), if_neg (by simp)]
theorem takeWhile_isD (l : List UInt8) (i : Nat) (hi : i < (l.takeWhile isD).length) (c : UInt8) (hc : l[i]? = some c) : isD c = true := by
  induction l generalizing i with
  | nil => simp at hi
  | cons x r ih =>
    by_cases hx : isD x = true
    · cases i with
      | zero => simp at hc; subst hc; exact hx
      | succ i =>
        simp only [List.takeWhile, hx, List.length_cons] at hi
        exact ih i (by omega) (by simpa using hc)
    · simp [List.takeWhile, hx] at hi
theorem amount_bd {l : List UInt8} {x : Int} (h : amount l = some x) : 0 ≤ x ∧ x ≤ 3600000 := by
  unfold amount at h
  have hd := takeWhile_isD l
  have hle : (l.takeWhile isD).length ≤ l.length := (List.takeWhile_prefix isD).length_le
  generalize (l.takeWhile isD).length = k at *
  simp only at h
  by_cases h0 : k = 0 ∨ 3 < k ∨ 1 < k ∧ l[0]? = some 48
  · rw [if_pos h0] at h; cases h
  · rw [if_neg h0] at h
    have hk3 : k ≤ 3 := Nat.le_of_not_lt fun q => h0 (.inr (.inl q))
    obtain ⟨b0, _, b3, _⟩ := val_bd l k (by omega) hd hle
    have b3 := b3 hk3
    by_cases h1 : l.length = k
    · rw [if_pos h1] at h; injection h with h; omega
    · rw [if_neg h1] at h
      by_cases h2 : l[k]? ≠ some 58
      · rw [if_pos h2] at h; cases h
      · rw [if_neg h2] at h
        cases hp : pairL (l.drop (k + 1)) with
        | none => rw [hp] at h; cases h
        | some m =>
          rw [hp] at h
          have hm := pairL_bd hp
          simp only at h
          by_cases h3 : l.length = k + 3
          · rw [if_pos h3] at h; injection h with h; omega
          · rw [if_neg h3] at h
            by_cases h4 : l[k + 3]? ≠ some 58
            · rw [if_pos h4] at h; cases h
            · rw [if_neg h4] at h
              cases hq : pairL (l.drop (k + 4)) with
              | none => rw [hq] at h; cases h
              | some y =>
                rw [hq] at h
                have hy := pairL_bd hq
                simp only at h
                by_cases h5 : l.length = k + 6
                · rw [if_pos h5] at h; injection h with h; omega
                · rw [if_neg h5] at h; cases h
theorem fv_bd (l : List UInt8) : 0 ≤ fv l ∧ fv l ≤ 3600000 := by
  unfold fv
  cases h : amount l with
  | none => simp
  | some x => simpa using amount_bd h
theorem dec_len (k : Nat) : ∀ u : Nat, u < 10 ^ (k + 1) → (Lib.decDigits u).length ≤ k + 1 := by
  induction k with
  | zero => intro u h; rw [Lib.decDigits, dif_pos (by omega)]; simp
  | succ k ih =>
    intro u h
    rw [Lib.decDigits]
    by_cases hu : u < 10
    · rw [dif_pos hu]; simp
    · rw [dif_neg hu, List.length_append]
      have := ih (u / 10) (by rw [Nat.pow_succ] at h; omega)
      simp; omega
theorem dec_len10 (u : Nat) (h : u ≤ 1000000000) : (Lib.decDigits u).length ≤ 10 := dec_len 9 u (by omega)
theorem dec_pos (u : Nat) : 0 < (Lib.decDigits u).length := by
  rw [Lib.decDigits]
  split <;> simp
end Go.Proofs.YtmhciidliicheaaDoor.P4
