/- Plain laws of chapter 4: what is printed is read back; what is read can be printed; what has another form is refused. -/
import Derived.Test.YtmhciidliicheaaDoorPlain4
namespace Go.Proofs.YtmhciidliicheaaDoor.P4
set_option linter.unusedVariables false

/-- one to three digits, no zero ahead of another digit -/
def Dig (D : List UInt8) : Prop := (∀ c ∈ D, isD c = true) ∧ 1 ≤ D.length ∧ D.length ≤ 3 ∧ (1 < D.length → D[0]? ≠ some 48)
theorem lead_app (D r : List UInt8) (hD : ∀ c ∈ D, isD c = true) (hr : ∀ c, r[0]? = some c → isD c = false) : ((D ++ r).takeWhile isD).length = D.length := by
  refine lead_eq _ _ (by simp) (fun i hi c hc => ?_) (fun c hc => ?_)
  · rw [List.getElem?_append_left hi] at hc
    exact hD c (List.mem_of_getElem? hc)
  · rw [List.getElem?_append_right (Nat.le_refl _), Nat.sub_self] at hc
    exact hr c hc
theorem head_app (D r : List UInt8) (h : 1 ≤ D.length) : (D ++ r)[0]? = D[0]? := List.getElem?_append_left (by omega)
theorem not_bad {D r : List UInt8} (hD : Dig D) : ¬ (D.length = 0 ∨ 3 < D.length ∨ 1 < D.length ∧ (D ++ r)[0]? = some 48) := by
  obtain ⟨_, h1, h3, h0⟩ := hD
  rw [head_app D r h1]
  rintro (a | a | a)
  · omega
  · omega
  · exact h0 a.1 a.2
theorem isD_of (n : Nat) (h : n < 10) : isD (UInt8.ofNat (48 + n)) = true := by
  simp only [isD, decide_eq_true_eq, UInt8.toNat_ofNat']
  omega
theorem toNat_dig (n : Nat) (h : n < 10) : (UInt8.ofNat (48 + n)).toNat = 48 + n := by
  rw [UInt8.toNat_ofNat']; omega
theorem pair_two (m : Nat) (hm : m < 60) (r : List UInt8) : pairL (two m ++ r) = some (m : Int) := by
  have h1 : m / 10 < 6 := by omega
  simp only [two, List.cons_append, List.nil_append, pairL]
  rw [if_pos]
  · rw [toNat_dig _ (by omega), toNat_dig _ (by omega)]; congr 1; omega
  · rw [isD_of _ (by omega), isD_of _ (by omega), toNat_dig _ (by omega)]; simp; omega
theorem amount_h {D : List UInt8} (hD : Dig D) : amount D = some (3600 * val D) := by
  have hk : (D.takeWhile isD).length = D.length := by have := lead_app D [] hD.1 (by simp); simpa using this
  unfold amount
  simp only [hk]
  have hb := not_bad (r := []) hD
  rw [List.append_nil] at hb
  rw [if_neg hb, if_pos trivial, List.take_of_length_le (Nat.le_refl _)]
theorem amount_hm {D : List UInt8} (hD : Dig D) (m : Nat) (hm : m < 60) : amount (D ++ 58 :: two m) = some (3600 * val D + 60 * m) := by
  have hk : ((D ++ 58 :: two m).takeWhile isD).length = D.length := lead_app D _ hD.1 (by intro c hc; simp at hc; subst hc; rfl)
  have hl : (D ++ 58 :: two m).length = D.length + 3 := by simp [two]
  have hg : (D ++ 58 :: two m)[D.length]? = some 58 := by rw [List.getElem?_append_right (Nat.le_refl _)]; simp
  have hd : (D ++ 58 :: two m).drop (D.length + 1) = two m := by rw [← List.drop_drop, List.drop_left]; rfl
  have hp := pair_two m hm []
  rw [List.append_nil] at hp
  unfold amount
  simp only [hk]
  rw [if_neg (not_bad hD), if_neg (by omega), if_neg (by rw [hg]; simp), hd, hp]
  simp only
  rw [if_pos hl, List.take_left]
theorem amount_hms {D : List UInt8} (hD : Dig D) (m s : Nat) (hm : m < 60) (hs : s < 60) : amount (D ++ 58 :: two m ++ 58 :: two s) = some (3600 * val D + 60 * m + s) := by
  have e : D ++ 58 :: two m ++ 58 :: two s = D ++ (58 :: (two m ++ 58 :: two s)) := by simp
  rw [e]
  have hk : ((D ++ (58 :: (two m ++ 58 :: two s))).takeWhile isD).length = D.length := lead_app D _ hD.1 (by intro c hc; simp at hc; subst hc; rfl)
  have hl : (D ++ (58 :: (two m ++ 58 :: two s))).length = D.length + 6 := by simp [two]
  have hg : (D ++ (58 :: (two m ++ 58 :: two s)))[D.length]? = some 58 := by rw [List.getElem?_append_right (Nat.le_refl _)]; simp
  have hg3 : (D ++ (58 :: (two m ++ 58 :: two s)))[D.length + 3]? = some 58 := by rw [List.getElem?_append_right (by omega), show D.length + 3 - D.length = 3 by omega]; rfl
  have hd : (D ++ (58 :: (two m ++ 58 :: two s))).drop (D.length + 1) = two m ++ 58 :: two s := by rw [← List.drop_drop, List.drop_left]; rfl
  have hd4 : (D ++ (58 :: (two m ++ 58 :: two s))).drop (D.length + 4) = two s := by rw [← List.drop_drop, List.drop_left]; rfl
  have hp := pair_two s hs []
  rw [List.append_nil] at hp
  unfold amount
  simp only [hk]
  rw [if_neg (not_bad hD), if_neg (by omega), if_neg (by rw [hg]; simp), hd, pair_two m hm]
  simp only
  rw [if_neg (by omega), if_neg (by rw [hg3]; simp), hd4, hp]
  simp only
  rw [if_pos hl, List.take_left]

/-- decimal digits of a small number -/
theorem dec_one (n : Nat) (h : n < 10) : Lib.decDigits n = [UInt8.ofNat (48 + n)] := by rw [Lib.decDigits, dif_pos h]
theorem dec_step (n : Nat) (h : ¬ n < 10) : Lib.decDigits n = Lib.decDigits (n / 10) ++ [UInt8.ofNat (48 + n % 10)] := by
  conv => lhs; rw [Lib.decDigits]
  rw [dif_neg h]
theorem dec_val (k : Nat) : ∀ n : Nat, n ≤ k → val (Lib.decDigits n) = n := by
  induction k with
  | zero => intro n h; obtain rfl : n = 0 := by omega
            rw [dec_one 0 (by omega)]; rfl
  | succ k ih =>
    intro n h
    by_cases h1 : n < 10
    · rw [dec_one n h1]; simp only [val, valFrom]; rw [toNat_dig n h1]; omega
    · rw [dec_step n h1, val_snoc, ih (n / 10) (by omega), toNat_dig _ (by omega)]; omega
theorem dec_all (k : Nat) : ∀ n : Nat, n ≤ k → ∀ c ∈ Lib.decDigits n, isD c = true := by
  induction k with
  | zero => intro n h; obtain rfl : n = 0 := by omega
            rw [dec_one 0 (by omega)]; intro c hc; simp at hc; subst hc; rfl
  | succ k ih =>
    intro n h c hc
    by_cases h1 : n < 10
    · rw [dec_one n h1] at hc; simp only [List.mem_singleton] at hc; subst hc; exact isD_of n h1
    · rw [dec_step n h1, List.mem_append] at hc
      rcases hc with hc | hc
      · exact ih (n / 10) (by omega) c hc
      · simp only [List.mem_singleton] at hc; subst hc; exact isD_of _ (by omega)
theorem dec_head (k : Nat) : ∀ n : Nat, n ≤ k → 0 < n → (Lib.decDigits n)[0]? ≠ some 48 := by
  induction k with
  | zero => intro n h h0; omega
  | succ k ih =>
    intro n h h0
    by_cases h1 : n < 10
    · rw [dec_one n h1]
      simp only [List.getElem?_cons_zero]
      intro e
      have := congrArg UInt8.toNat (Option.some.inj e)
      rw [toNat_dig n h1] at this
      simp at this
      omega
    · rw [dec_step n h1, head_app _ _ (dec_pos _)]
      exact ih (n / 10) (by omega) (by omega)
theorem dec_Dig (n : Nat) (h : n < 1000) : Dig (Lib.decDigits n) := by
  refine ⟨dec_all n n (Nat.le_refl _), dec_pos n, dec_len 2 n (by omega), fun h1 => ?_⟩
  refine dec_head n n (Nat.le_refl _) ?_
  rcases Nat.eq_zero_or_pos n with e | e
  · subst e; rw [dec_one 0 (by omega)] at h1; simp at h1
  · exact e

theorem amount_show (n : Nat) (h : n ≤ 604799) : amount (showN n) = some (n : Int) := by
  have hD := dec_Dig (n / 3600) (by omega)
  have hv := dec_val (n / 3600) (n / 3600) (Nat.le_refl _)
  unfold showN
  by_cases hz : n % 60 = 0
  · rw [if_pos hz, List.append_nil, amount_hm hD _ (by omega), hv]; congr 1; omega
  · rw [if_neg hz, amount_hms hD _ _ (by omega) (by omega), hv]; congr 1; omega
theorem show_ne (n : Nat) : showN n ≠ [] := by
  intro e
  have := congrArg List.length e
  simp [showN] at this
theorem show_head (n : Nat) (h : n ≤ 604799) (c : UInt8) (hc : (showN n)[0]? = some c) : isD c = true := by
  unfold showN at hc
  rw [List.append_assoc, head_app _ _ (dec_pos _)] at hc
  exact dec_all _ _ (Nat.le_refl _) c (List.mem_of_getElem? hc)
theorem minus_show (n : Nat) (h : n ≤ 604799) : minusB (showN n) = false := by
  simp only [minusB, beq_eq_false_iff_ne]
  intro e
  have := show_head n h 45 e
  cases this
theorem parse_some {l : List UInt8} {x : Int} (hm : minusB l = false) (h : amount l = some x) (hx : x ≤ 604799) : parse l = (x, 0) := by
  have := parse_plus hm (fb_some h) (by rw [fv_some h]; exact hx)
  rwa [fv_some h] at this
theorem parse_neg {l : List UInt8} {x : Int} (h : amount l = some x) (h0 : x ≠ 0) (hx : x ≤ 604799) : parse (45 :: l) = (-x, 0) := by
  have := parse_minus (l := 45 :: l) (r := l) rfl rfl (fb_some h) (by rw [fv_some h]; exact h0) (by rw [fv_some h]; exact hx)
  rwa [fv_some h] at this
theorem parse_show (n : Nat) (h : n ≤ 604799) : parse (showN n) = ((n : Int), 0) := parse_some (minus_show n h) (amount_show n h) (by omega)
theorem parse_negshow (n : Nat) (h : n ≤ 604799) (h0 : 0 < n) : parse (45 :: showN n) = (-(n : Int), 0) := parse_neg (amount_show n h) (by omega) (by omega)
theorem print_nat (n : Nat) (h : n ≤ 604799) : print (n : Int) = (showN n, 0) := by
  unfold print; rw [if_neg (by omega), if_neg (by omega), Int.toNat_natCast]
theorem print_neg (n : Nat) (h : n ≤ 604799) (h0 : 0 < n) : print (-(n : Int)) = (45 :: showN n, 0) := by
  unfold print; rw [if_neg (by omega), if_pos (by omega)]; congr 3; omega
/-- what is read lies within the limit, or is 0 with an error -/
theorem parse_cases (l : List UInt8) : ((parse l).2 = 0 ∧ -604799 ≤ (parse l).1 ∧ (parse l).1 ≤ 604799) ∨ ((parse l).1 = 0 ∧ ((parse l).2 = 3 ∨ (parse l).2 = 5)) := by
  have hb := fun x h => amount_bd (l := if minusB l then l.drop 1 else l) (x := x) h
  unfold parse
  simp only
  rw [show (l[0]? == some 45) = minusB l from rfl]
  cases hx : amount (if minusB l then l.drop 1 else l) with
  | none => exact .inr ⟨rfl, .inr rfl⟩
  | some x =>
    have := hb x hx
    simp only
    split
    · exact .inr ⟨rfl, .inr rfl⟩
    · split
      · exact .inr ⟨rfl, .inl rfl⟩
      · left; refine ⟨rfl, ?_⟩; simp only; split <;> omega
/-- what was printed is read as it was -/
theorem parse_print (y : Int) (h0 : -604799 ≤ y) (h1 : y ≤ 604799) : (print y).2 = 0 ∧ parse (print y).1 = (y, 0) := by
  by_cases hy : y < 0
  · obtain ⟨n, rfl⟩ : ∃ n : Nat, y = -(n : Int) := ⟨y.natAbs, by omega⟩
    rw [print_neg n (by omega) (by omega)]
    exact ⟨rfl, parse_negshow n (by omega) (by omega)⟩
  · obtain ⟨n, rfl⟩ := Int.eq_ofNat_of_zero_le (by omega : 0 ≤ y)
    rw [print_nat n (by omega)]
    exact ⟨rfl, parse_show n (by omega)⟩
end Go.Proofs.YtmhciidliicheaaDoor.P4
