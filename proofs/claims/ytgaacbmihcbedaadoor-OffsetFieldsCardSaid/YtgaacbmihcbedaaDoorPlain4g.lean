/- Plain mathematics of amounts of time (chapter 4): strings of amounts stand in the order of the amounts. -/
import Derived.Test.YtgaacbmihcbedaaDoorPlain4e
import Derived.Lib.Bytealg
namespace Go.Proofs.YtgaacbmihcbedaaDoor.P4
open Go.Op (bytesLess)

theorem dig_lt {a b : List UInt8} (hl : a.length = b.length) (ha : ∀ c ∈ a, isD c = true) (hb : ∀ c ∈ b, isD c = true) (u v : Int) (h : u < v) : valFrom u a < valFrom v b := by
  induction a generalizing b u v with
  | nil =>
    cases b with
    | nil => exact h
    | cons y b => simp at hl
  | cons x a ih =>
    cases b with
    | nil => simp at hl
    | cons y b =>
      have hx := ha x (by simp)
      have hy := hb y (by simp)
      simp only [isD, decide_eq_true_eq] at hx hy
      exact ih (b := b) (by simpa using hl) (fun c hc => ha c (by simp [hc])) (fun c hc => hb c (by simp [hc])) (10 * u + ((x.toNat : Int) - 48)) (10 * v + ((y.toNat : Int) - 48)) (by omega)
theorem dig_less {a b : List UInt8} (hl : a.length = b.length) (ha : ∀ c ∈ a, isD c = true) (hb : ∀ c ∈ b, isD c = true) (u : Int) (r t : List UInt8) :
    bytesLess (a ++ r) (b ++ t) = true ↔ (valFrom u a < valFrom u b ∨ valFrom u a = valFrom u b ∧ bytesLess r t = true) := by
  induction a generalizing b u with
  | nil =>
    cases b with
    | nil => simp [valFrom]
    | cons y b => simp at hl
  | cons x a ih =>
    cases b with
    | nil => simp at hl
    | cons y b =>
      have hl' : a.length = b.length := by simpa using hl
      have ha' : ∀ c ∈ a, isD c = true := fun c hc => ha c (by simp [hc])
      have hb' : ∀ c ∈ b, isD c = true := fun c hc => hb c (by simp [hc])
      simp only [List.cons_append, bytesLess, valFrom, Bool.or_eq_true, Bool.and_eq_true, decide_eq_true_eq, beq_iff_eq]
      rcases Nat.lt_trichotomy x.toNat y.toNat with h | h | h
      · have := dig_lt hl' ha' hb' (10 * u + ((x.toNat : Int) - 48)) (10 * u + ((y.toNat : Int) - 48)) (by omega)
        exact ⟨fun _ => .inl this, fun _ => .inl (UInt8.lt_iff_toNat_lt.mpr h)⟩
      · have hxy : x = y := UInt8.toNat_inj.mp h
        subst hxy
        rw [← ih hl' ha' hb' (10 * u + ((x.toNat : Int) - 48))]
        constructor
        · rintro (q | ⟨_, q⟩)
          · exact absurd (UInt8.lt_iff_toNat_lt.mp q) (Nat.lt_irrefl _)
          · exact q
        · exact fun q => .inr ⟨rfl, q⟩
      · have := dig_lt hl'.symm hb' ha' (10 * u + ((y.toNat : Int) - 48)) (10 * u + ((x.toNat : Int) - 48)) (by omega)
        constructor
        · rintro (q | ⟨q, _⟩)
          · have := UInt8.lt_iff_toNat_lt.mp q; omega
          · subst q; omega
        · rintro (q | ⟨q, _⟩) <;> omega
theorem less_colon (p q : List UInt8) : bytesLess (58 :: p) (58 :: q) = bytesLess p q := by
  simp [bytesLess]
theorem less_nil : bytesLess [] [] = false := rfl
theorem two_all (m : Nat) (hm : m < 60) : ∀ c ∈ two m, isD c = true := by
  intro c hc
  simp only [two, List.mem_cons, List.not_mem_nil, or_false] at hc
  rcases hc with rfl | rfl
  · exact isD_of _ (by omega)
  · exact isD_of _ (by omega)
theorem two_val (m : Nat) (hm : m < 60) : valFrom 0 (two m) = m := by
  simp only [two, valFrom, toNat_dig (m / 10) (by omega), toNat_dig (m % 10) (by omega)]
  omega
theorem two_less (m n : Nat) (hm : m < 60) (hn : n < 60) (r t : List UInt8) : bytesLess (two m ++ r) (two n ++ t) = true ↔ (m < n ∨ m = n ∧ bytesLess r t = true) := by
  rw [dig_less (by simp [two]) (two_all m hm) (two_all n hn) 0, two_val m hm, two_val n hn]
  constructor
  · rintro (q | ⟨q, z⟩)
    · exact .inl (by omega)
    · exact .inr ⟨by omega, z⟩
  · rintro (q | ⟨q, z⟩)
    · exact .inl (by omega)
    · exact .inr ⟨by omega, z⟩
/-- the string's end behind the minutes -/
def tailS (s : Nat) : List UInt8 := if s = 0 then [] else 58 :: two s
theorem tail_less (a b : Nat) (ha : a < 60) (hb : b < 60) (hl : (tailS a).length = (tailS b).length) : bytesLess (tailS a) (tailS b) = true ↔ a < b := by
  unfold tailS at *
  by_cases h0 : a = 0
  · by_cases h1 : b = 0
    · simp [h0, h1, bytesLess]
    · rw [if_pos h0, if_neg h1] at hl; simp at hl
  · by_cases h1 : b = 0
    · rw [if_neg h0, if_pos h1] at hl; simp at hl
    · rw [if_neg h0, if_neg h1, less_colon]
      have := two_less a b ha hb [] []
      simp only [List.append_nil, less_nil] at this
      rw [this]
      simp
theorem show_split (n : Nat) : showN n = Lib.decDigits (n / 3600) ++ (58 :: (two (n / 60 % 60) ++ tailS (n % 60))) := by
  simp [showN, tailS]
theorem colon_at (D r : List UInt8) (hD : ∀ c ∈ D, isD c = true) : Lib.indexByte (D ++ 58 :: r) 58 = D.length := by
  induction D with
  | nil => simp [Lib.indexByte]
  | cons x D ih =>
    have hx : (x == 58) = false := by
      have := hD x (by simp)
      rw [beq_eq_false_iff_ne]
      rintro rfl
      exact absurd this (by decide)
    have := ih (fun c hc => hD c (by simp [hc]))
    simp only [List.cons_append, Lib.indexByte, hx, this, List.length_cons]
    rw [if_neg (by simp), if_neg (by simp)]
    omega
theorem show_colon (n : Nat) : Lib.indexByte (showN n) 58 = (Lib.decDigits (n / 3600)).length := by
  rw [show_split]
  exact colon_at _ _ (dec_all _ _ (Nat.le_refl _))
theorem show_less (x y : Nat) (hl : (showN x).length = (showN y).length) (hi : Lib.indexByte (showN x) 58 = Lib.indexByte (showN y) 58) : bytesLess (showN x) (showN y) = decide (x < y) := by
  rw [show_colon, show_colon] at hi
  have hd : (Lib.decDigits (x / 3600)).length = (Lib.decDigits (y / 3600)).length := by omega
  have ht : (tailS (x % 60)).length = (tailS (y % 60)).length := by
    rw [show_split, show_split] at hl
    simp only [List.length_append, List.length_cons, two] at hl
    simp at hl
    omega
  rw [Bool.eq_iff_iff, decide_eq_true_eq, show_split, show_split, dig_less hd (dec_all _ _ (Nat.le_refl _)) (dec_all _ _ (Nat.le_refl _)) 0, less_colon, two_less _ _ (Nat.mod_lt _ (by decide)) (Nat.mod_lt _ (by decide)), tail_less _ _ (Nat.mod_lt _ (by decide)) (Nat.mod_lt _ (by decide)) ht]
  have vx := dec_val _ (x / 3600) (Nat.le_refl _)
  have vy := dec_val _ (y / 3600) (Nat.le_refl _)
  unfold val at vx vy
  rw [vx, vy]
  omega
theorem show_inj (x y : Nat) (hx : x ≤ 604799) (hy : y ≤ 604799) (h : showN x = showN y) : x = y := by
  have a := parse_show x hx
  rw [h, parse_show y hy] at a
  injection a with a _
  omega
end Go.Proofs.YtgaacbmihcbedaaDoor.P4
