/- Plain mathematics of times of day (chapter 6): what a string is read as and what a time of day is printed as; that they are each other's inverses. -/
import Derived.Test.YtoabengifbokdaaDoorPlain6
import Derived.Test.YtoabengifbokdaaDoorCom
import Derived.Test.YtoabengifbokdaaDoorRef4c
namespace Go.Proofs.YtoabengifbokdaaDoor.P6
open Go.Proofs.YtoabengifbokdaaDoor
open Go.RowKit

def parse (s : ByteArray) : Int × Int × Int :=
  if (P4.parse (P4.bl (front s))).2 = 0 then ((P4.parse (P4.bl (front s))).1, cbase s, 0) else (0, 0, (P4.parse (P4.bl (front s))).2)
def check (sec base : Int) : Int := if sec < -604799 ∨ 604799 < sec ∨ base < 0 ∨ 2 < base then 2 else 0
def suf (base : Int) : List UInt8 := if base = 1 then [115] else if base = 2 then [117] else []
def print (sec base : Int) : List UInt8 × Int := if check sec base = 0 then ((P4.print sec).1 ++ suf base, 0) else ([], 2)

theorem bl_str (l : List UInt8) : P4.bl (str l) = l := rfl
theorem byt_at (l : List UInt8) (c : UInt8) (s : ByteArray) (hl : P4.bl s = l ++ [c]) (q : Nat) (hq : q = l.length) : byt s q = c.toNat := by
  have hz : s.size = l.length + 1 := by rw [← P4.bl_len, hl]; simp
  subst hq
  have h : l.length < s.size := by omega
  have hg : (l ++ [c])[l.length]? = some (s[l.length]'h) := by rw [← hl]; exact P4.bl_get s _ h
  have hr : (l ++ [c])[l.length]? = some c := by simp
  rw [byt_get s _ h]
  rw [hr] at hg
  injection hg with hg
  rw [← hg]
theorem byt_last (l : List UInt8) (c : UInt8) : byt (str (l ++ [c])) ((str (l ++ [c])).size - 1) = c.toNat :=
  byt_at l c _ rfl _ (by rw [str_size]; simp)
theorem lettered_snoc (l : List UInt8) (c : UInt8) : lettered (str (l ++ [c])) = decide (0 ≤ base (c.toNat : Int)) := by
  unfold lettered
  rw [byt_last, str_size]
  simp
theorem front_snoc_yes (l : List UInt8) (c : UInt8) (h : 0 ≤ base (c.toNat : Int)) : front (str (l ++ [c])) = str l ∧ cbase (str (l ++ [c])) = base (c.toNat : Int) := by
  have hl : lettered (str (l ++ [c])) = true := by rw [lettered_snoc]; exact decide_eq_true h
  refine ⟨?_, ?_⟩
  · unfold front
    rw [if_pos hl]
    apply ByteArray.ext
    apply Array.ext'
    rw [ByteArray.data_extract, Array.toList_extract, str_size]
    simp [str]
  · unfold cbase
    rw [if_pos hl, byt_last]
theorem front_snoc_no (l : List UInt8) (c : UInt8) (h : base (c.toNat : Int) < 0) : front (str (l ++ [c])) = str (l ++ [c]) ∧ cbase (str (l ++ [c])) = 0 := by
  have hl : lettered (str (l ++ [c])) = false := by rw [lettered_snoc]; exact decide_eq_false (by omega)
  exact ⟨by unfold front; rw [hl]; exact if_neg (by decide), by unfold cbase; rw [hl]; exact if_neg (by decide)⟩
theorem parse_yes (l : List UInt8) (c : UInt8) (x b : Int) (hb : base (c.toNat : Int) = b) (h : 0 ≤ b) (hp : P4.parse l = (x, 0)) : parse (str (l ++ [c])) = (x, b, 0) := by
  obtain ⟨h1, h2⟩ := front_snoc_yes l c (by omega)
  unfold parse
  rw [h1, h2, bl_str, hp, hb]; rfl
theorem parse_bad (l : List UInt8) (c : UInt8) (e : Int) (h : 0 ≤ base (c.toNat : Int)) (he : e ≠ 0) (hp : P4.parse l = (0, e)) : parse (str (l ++ [c])) = (0, 0, e) := by
  obtain ⟨h1, h2⟩ := front_snoc_yes l c h
  unfold parse
  rw [h1, bl_str, hp]; exact if_neg he
theorem parse_no (l : List UInt8) (c : UInt8) (x : Int) (h : base (c.toNat : Int) < 0) (hp : P4.parse (l ++ [c]) = (x, 0)) : parse (str (l ++ [c])) = (x, 0, 0) := by
  obtain ⟨h1, h2⟩ := front_snoc_no l c h
  unfold parse
  rw [h1, h2, bl_str, hp]; rfl
theorem parse_nobad (l : List UInt8) (c : UInt8) (e : Int) (h : base (c.toNat : Int) < 0) (he : e ≠ 0) (hp : P4.parse (l ++ [c]) = (0, e)) : parse (str (l ++ [c])) = (0, 0, e) := by
  obtain ⟨h1, h2⟩ := front_snoc_no l c h
  unfold parse
  rw [h1, bl_str, hp]; exact if_neg he
/-- a printed number ends in a digit -/
theorem two_snoc (n : Nat) : P4.two n = [UInt8.ofNat (48 + n / 10)] ++ [UInt8.ofNat (48 + n % 10)] := rfl
theorem dig_base (k : Nat) (h : k < 10) : base ((UInt8.ofNat (48 + k)).toNat : Int) < 0 := by
  have : (UInt8.ofNat (48 + k)).toNat = 48 + k := by
    rw [UInt8.toNat_ofNat']; omega
  rw [this]
  unfold base
  rw [if_neg (by omega), if_neg (by omega), if_neg (by omega)]; omega
theorem show_snoc (n : Nat) : ∃ l k, k < 10 ∧ P4.showN n = l ++ [UInt8.ofNat (48 + k)] := by
  unfold P4.showN
  by_cases h : n % 60 = 0
  · rw [if_pos h]
    exact ⟨Lib.decDigits (n / 3600) ++ (58 :: [UInt8.ofNat (48 + n / 60 % 60 / 10)]), n / 60 % 60 % 10, by omega, by rw [two_snoc]; simp⟩
  · rw [if_neg h]
    exact ⟨Lib.decDigits (n / 3600) ++ (58 :: P4.two (n / 60 % 60)) ++ (58 :: [UInt8.ofNat (48 + n % 60 / 10)]), n % 60 % 10, by omega, by rw [two_snoc (n % 60)]; simp⟩
theorem print_snoc (x : Int) (h0 : -604799 ≤ x) (h1 : x ≤ 604799) : ∃ l k, k < 10 ∧ (P4.print x).1 = l ++ [UInt8.ofNat (48 + k)] := by
  unfold P4.print
  rw [if_neg (by omega)]
  split
  · obtain ⟨l, k, hk, e⟩ := show_snoc x.natAbs
    exact ⟨45 :: l, k, hk, by simp only [e]; rfl⟩
  · exact show_snoc x.toNat
theorem parse_plain (x : Int) (h0 : -604799 ≤ x) (h1 : x ≤ 604799) : parse (str (P4.print x).1) = (x, 0, 0) := by
  obtain ⟨l, k, hk, e⟩ := print_snoc x h0 h1
  have hp := (P4.parse_print x h0 h1).2
  rw [e] at hp ⊢
  exact parse_no l _ x (dig_base k hk) hp
theorem suf_cases (b : Int) (h0 : 0 ≤ b) (h2 : b ≤ 2) : (b = 0 ∧ suf b = []) ∨ ∃ c : UInt8, suf b = [c] ∧ base (c.toNat : Int) = b := by
  rcases (by omega : b = 0 ∨ b = 1 ∨ b = 2) with rfl | rfl | rfl
  · exact .inl ⟨rfl, rfl⟩
  · exact .inr ⟨115, rfl, rfl⟩
  · exact .inr ⟨117, rfl, rfl⟩
theorem check_ok {x b : Int} (h0 : -604799 ≤ x) (h1 : x ≤ 604799) (h2 : 0 ≤ b) (h3 : b ≤ 2) : check x b = 0 := if_neg (by omega)
theorem check_bad {x b : Int} (h : x < -604799 ∨ 604799 < x ∨ b < 0 ∨ 2 < b) : check x b = 2 := if_pos h
theorem print_ok {x b : Int} (h0 : -604799 ≤ x) (h1 : x ≤ 604799) (h2 : 0 ≤ b) (h3 : b ≤ 2) : print x b = ((P4.print x).1 ++ suf b, 0) := if_pos (check_ok h0 h1 h2 h3)
theorem print_bad {x b : Int} (h : x < -604799 ∨ 604799 < x ∨ b < 0 ∨ 2 < b) : print x b = ([], 2) := if_neg (by rw [check_bad h]; decide)
theorem parse_print {x b : Int} (h0 : -604799 ≤ x) (h1 : x ≤ 604799) (h2 : 0 ≤ b) (h3 : b ≤ 2) : parse (str ((P4.print x).1 ++ suf b)) = (x, b, 0) := by
  rcases suf_cases b h2 h3 with ⟨rfl, e⟩ | ⟨c, e, hc⟩
  · rw [e, List.append_nil]; exact parse_plain x h0 h1
  · rw [e]; exact parse_yes _ c x b hc h2 (P4.parse_print x h0 h1).2
theorem print_inj {x y a b : Int} (h0 : -604799 ≤ x) (h1 : x ≤ 604799) (h2 : 0 ≤ a) (h3 : a ≤ 2) (k0 : -604799 ≤ y) (k1 : y ≤ 604799) (k2 : 0 ≤ b) (k3 : b ≤ 2)
    (h : str ((P4.print x).1 ++ suf a) = str ((P4.print y).1 ++ suf b)) : x = y ∧ a = b := by
  have p := parse_print h0 h1 h2 h3
  rw [h, parse_print k0 k1 k2 k3] at p
  simp only [Prod.mk.injEq, and_true] at p
  exact ⟨p.1.symm, p.2.symm⟩
theorem parse_cases (s : ByteArray) : ((parse s).2.2 = 0 ∧ -604799 ≤ (parse s).1 ∧ (parse s).1 ≤ 604799 ∧ 0 ≤ (parse s).2.1 ∧ (parse s).2.1 ≤ 2) ∨ ((parse s).1 = 0 ∧ (parse s).2.1 = 0 ∧ ((parse s).2.2 = 3 ∨ (parse s).2.2 = 5)) := by
  have hb := cbase_bd s
  unfold parse
  rcases P4.parse_cases (P4.bl (front s)) with ⟨h, h1, h2⟩ | ⟨h1, h2⟩
  · rw [if_pos h]; exact .inl ⟨rfl, h1, h2, hb.1, hb.2⟩
  · rw [if_neg (by omega)]; exact .inr ⟨rfl, rfl, h2⟩
/-- a byte behind a printed number is too much -/
theorem back_any (x : Int) (h0 : -604799 ≤ x) (h1 : x ≤ 604799) (c : UInt8) : P4.parse ((P4.print x).1 ++ [c]) = (0, 5) := by
  unfold P4.print
  rw [if_neg (by omega)]
  split
  · refine P4.parse_of_none ?_
    show P4.amount (P4.showN x.natAbs ++ [c]) = none
    exact P4.am_back _ (by omega) c
  · exact P4.pf_back _ (by omega) c
theorem letter_twice (x : Int) (h0 : -604799 ≤ x) (h1 : x ≤ 604799) (c d : UInt8) (h : 0 ≤ base (d.toNat : Int)) : parse (str ((P4.print x).1 ++ [c] ++ [d])) = (0, 0, 5) :=
  parse_bad _ d 5 h (by decide) (back_any x h0 h1 c)
theorem letter_none (x : Int) (h0 : -604799 ≤ x) (h1 : x ≤ 604799) (c : UInt8) (h : base (c.toNat : Int) < 0) : parse (str ((P4.print x).1 ++ [c])) = (0, 0, 5) :=
  parse_nobad _ c 5 h (by decide) (back_any x h0 h1 c)
theorem print_len (x : Int) (h0 : -604799 ≤ x) (h1 : x ≤ 604799) : 0 < (P4.print x).1.length ∧ (P4.print x).1.length ≤ 21 := by
  refine ⟨?_, ?_⟩
  · obtain ⟨l, k, _, e⟩ := print_snoc x h0 h1
    rw [e]; simp
  · unfold P4.print
    rw [if_neg (by omega)]
    split
    · have := show_len x.natAbs (by omega); simp only [List.length_cons]; omega
    · have := show_len x.toNat (by omega); simp only; omega
theorem suf_len (b : Int) : (suf b).length ≤ 1 := by
  unfold suf; split
  · simp
  · split <;> simp
end Go.Proofs.YtoabengifbokdaaDoor.P6
