/- Plain mathematics of chapter 4: the ways through a round of the program, each with the facts by which the walk sees its way. -/
import Derived.Test.YtoabengifbokdaaDoorPlain4c
namespace Go.Proofs.YtoabengifbokdaaDoor.P4
set_option linter.unusedVariables false

theorem get_is (l : List UInt8) (c : UInt8) (n : Nat) (d : UInt8) (hd : d.toNat = n) (h : l[0]? = some c) (e : c.toNat = n) : l[0]? = some d := by
  rw [h, UInt8.toNat_inj.1 (e.trans hd.symm)]
theorem get_isnt (l : List UInt8) (c d : UInt8) (n : Nat) (hd : d.toNat = n) (h : l[0]? = some c) (e : c.toNat ≠ n) : l[0]? ≠ some d := by
  rw [h]
  exact fun q => e (by rw [Option.some.inj q]; exact hd)
theorem eqb_is (c : UInt8) (n : Nat) (e : c.toNat = n) : ((c.toNat : Int) == (n : Int)) = true := by rw [e]; exact beq_self_eq_true _
theorem eqb_isnt (c : UInt8) (n : Nat) (e : c.toNat ≠ n) : ((c.toNat : Int) == (n : Int)) = false := by rw [beq_eq_false_iff_ne]; omega
theorem neb_is (c : UInt8) (n : Nat) (e : c.toNat = n) : ((c.toNat : Int) != (n : Int)) = false := by rw [e]; exact bne_self_eq_false _
theorem neb_isnt (c : UInt8) (n : Nat) (e : c.toNat ≠ n) : ((c.toNat : Int) != (n : Int)) = true := by rw [bne_iff_ne]; omega

theorem r0_cases (mb : Bool) (p0 p1 p2 : Int) (r : ByteArray) (ans : Int × Int) (h : ans = stage mb 0 p0 p1 p2 (bl r)) :
    ((digS r 3).size = 0 ∧ digS r 3 = ⟨#[]⟩ ∧ ans = (0, 5)) ∨
    (∃ hp : 0 < (digS r 3).size, (digS r 3).size ≤ 3 ∧ (digS r 3).size ≠ 0 ∧ (1 : Int) < ((digS r 3).size : Int) ∧ ((((digS r 3)[0]'hp).toNat : Int) == 48) = true ∧ ans = (0, 5)) ∨
    (∃ hp : 0 < (digS r 3).size, (digS r 3).size ≤ 3 ∧ (digS r 3).size ≠ 0 ∧ ((digS r 3).size : Int) ≤ 1 ∧ ans = stage mb 1 (val (bl (digS r 3))) 0 0 (bl (behS r 3))) ∨
    (∃ hp : 0 < (digS r 3).size, (digS r 3).size ≤ 3 ∧ (digS r 3).size ≠ 0 ∧ (1 : Int) < ((digS r 3).size : Int) ∧ ((((digS r 3)[0]'hp).toNat : Int) == 48) = false ∧ ans = stage mb 1 (val (bl (digS r 3))) 0 0 (bl (behS r 3))) := by
  have hs := dig_size r 3
  have hc := cnt_le (bl r) 3
  by_cases h0 : (digS r 3).size = 0
  · exact .inl ⟨h0, dig_zero r 3 h0, h.trans (st0_bad mb p0 p1 p2 r (.inl h0))⟩
  · have hp : 0 < (digS r 3).size := by omega
    have hg := dig_head r 3 hp
    by_cases h1 : 1 < (digS r 3).size
    · by_cases h48 : ((digS r 3)[0]'hp).toNat = 48
      · exact .inr (.inl ⟨hp, by omega, h0, by omega, eqb_is _ 48 h48, h.trans (st0_bad mb p0 p1 p2 r (.inr ⟨h1, get_is _ _ 48 48 rfl hg h48⟩))⟩)
      · refine .inr (.inr (.inr ⟨hp, by omega, h0, by omega, eqb_isnt _ 48 h48, h.trans (st0_ok mb p0 p1 p2 r h0 ?_)⟩))
        exact fun q => get_isnt _ _ 48 48 rfl hg h48 q.2
    · exact .inr (.inr (.inl ⟨hp, by omega, h0, by omega, h.trans (st0_ok mb p0 p1 p2 r h0 (fun q => h1 q.1))⟩))

theorem rk_cases (mb : Bool) (k : Nat) (hk : k = 1 ∨ k = 2) (p0 p1 p2 : Int) (hp1 : k = 1 → p1 = 0) (hp2 : p2 = 0) (r : ByteArray) (ans : Int × Int) (h : ans = stage mb k p0 p1 p2 (bl r)) :
    (r.toList = [] ∧ r.toList.isEmpty = true ∧ ans = fin mb (3600 * p0 + 60 * p1 + p2) (bl r)) ∨
    (∃ hp : 0 < r.size, ¬ r.toList = [] ∧ r.toList.isEmpty = false ∧ (((r[0]'hp).toNat : Int) != 58) = true ∧ ans = (0, 5)) ∨
    (∃ hp : 0 < r.size, ¬ r.toList = [] ∧ r.toList.isEmpty = false ∧ (1 : Int) ≤ (r.size : Int) ∧ (((r[0]'hp).toNat : Int) != 58) = false ∧ (r.extract 1 r.size).size ≤ r.size ∧
      (((digS (r.extract 1 r.size) 2).size = 0 ∧ digS (r.extract 1 r.size) 2 = ⟨#[]⟩ ∧ ans = (0, 5)) ∨
       ((digS (r.extract 1 r.size) 2).size ≤ 3 ∧ (digS (r.extract 1 r.size) 2).size ≠ 0 ∧ (((digS (r.extract 1 r.size) 2).size : Int) != 2) = true ∧ ans = (0, 5)) ∨
       ((digS (r.extract 1 r.size) 2).size ≤ 3 ∧ (digS (r.extract 1 r.size) 2).size ≠ 0 ∧ (((digS (r.extract 1 r.size) 2).size : Int) != 2) = false ∧ 59 < val (bl (digS (r.extract 1 r.size) 2)) ∧ ans = (0, 5)) ∨
       ((digS (r.extract 1 r.size) 2).size ≤ 3 ∧ (digS (r.extract 1 r.size) 2).size ≠ 0 ∧ (((digS (r.extract 1 r.size) 2).size : Int) != 2) = false ∧ val (bl (digS (r.extract 1 r.size) 2)) ≤ 59 ∧
         ans = (if k = 1 then stage mb 2 p0 (val (bl (digS (r.extract 1 r.size) 2))) 0 (bl (behS (r.extract 1 r.size) 2)) else stage mb 3 p0 p1 (val (bl (digS (r.extract 1 r.size) 2))) (bl (behS (r.extract 1 r.size) 2)))))) := by
  have hl := bl_len r
  by_cases h0 : r.size = 0
  · have hnil : bl r = [] := List.eq_nil_of_length_eq_zero (by omega)
    have ht : r.toList = [] := by rw [ByteArray.toList_eq]; exact hnil
    exact .inl ⟨ht, by rw [ht]; rfl, h.trans (st_stop mb k hk p0 p1 p2 hp1 hp2 (bl r) hnil)⟩
  · have hp : 0 < r.size := by omega
    have hne : bl r ≠ [] := fun e => by rw [e] at hl; simp at hl; omega
    have ht : ¬ r.toList = [] := by rw [ByteArray.toList_eq]; exact hne
    have hi : r.toList.isEmpty = false := by simpa using ht
    have hg := bl_get r 0 hp
    have hx : (r.extract 1 r.size).size ≤ r.size := by rw [ByteArray.size_extract]; omega
    by_cases h58 : (r[0]'hp).toNat = 58
    · have hg58 : (bl r)[0]? = some 58 := get_is _ _ 58 58 rfl hg h58
      have hs := dig_size (r.extract 1 r.size) 2
      have hc := cnt_le (bl (r.extract 1 r.size)) 2
      refine .inr (.inr ⟨hp, ht, hi, by omega, neb_is _ 58 h58, hx, ?_⟩)
      by_cases hd0 : (digS (r.extract 1 r.size) 2).size = 0
      · exact .inl ⟨hd0, dig_zero _ 2 hd0, h.trans (st_none mb k hk p0 p1 p2 (bl r) hne (part_bad r (.inl (by omega))))⟩
      · by_cases hd2 : (digS (r.extract 1 r.size) 2).size = 2
        · by_cases hv : 59 < val (bl (digS (r.extract 1 r.size) 2))
          · exact .inr (.inr (.inl ⟨by omega, hd0, by rw [bne_eq_false_iff_eq]; omega, hv, h.trans (st_none mb k hk p0 p1 p2 (bl r) hne (part_bad r (.inr hv)))⟩))
          · refine .inr (.inr (.inr ⟨by omega, hd0, by rw [bne_eq_false_iff_eq]; omega, by omega, ?_⟩))
            have hpo := part_ok r hg58 hd2 (by omega)
            rcases hk with rfl | rfl
            · rw [if_pos rfl]; exact h.trans (st1_ok mb p0 p1 p2 (bl r) _ _ hne hpo)
            · rw [if_neg (by omega)]; exact h.trans (st2_ok mb p0 p1 p2 (bl r) _ _ hne hpo)
        · exact .inr (.inl ⟨by omega, hd0, by rw [bne_iff_ne]; omega, h.trans (st_none mb k hk p0 p1 p2 (bl r) hne (part_bad r (.inl hd2)))⟩)
    · exact .inr (.inl ⟨hp, ht, hi, neb_isnt _ 58 h58, h.trans (st_none mb k hk p0 p1 p2 (bl r) hne (part_colon _ (get_isnt _ _ 58 58 rfl hg h58)))⟩)

section
variable {mb : Bool} {r : ByteArray} {p0 p1 p2 : Int}
theorem nil_bl (h : r.toList = []) : bl r = [] := (ByteArray.toList_eq r).symm.trans h
theorem fin_full (h : ¬ r.toList = []) : fin mb (3600 * p0 + 60 * p1 + p2) (bl r) = (0, 5) := by
  rw [fin, if_pos (.inl (fun e => h ((ByteArray.toList_eq r).trans e)))]
theorem fin_zero (h : r.toList = []) (hm : mb = true) (h0 : (p0 * 3600 + p1 * 60 + p2 == 0) = true) : fin mb (3600 * p0 + 60 * p1 + p2) (bl r) = (0, 5) := by
  rw [fin, if_pos (.inr ⟨hm, by rw [beq_iff_eq] at h0; omega⟩)]
theorem fin_pos_far (h : r.toList = []) (hm : ¬ mb = true) (h1 : 604799 < p0 * 3600 + p1 * 60 + p2) : fin mb (3600 * p0 + 60 * p1 + p2) (bl r) = (0, 3) := by
  rw [fin, if_neg (by rintro (a | a); exact a (nil_bl h); exact hm a.1), if_pos (by omega)]
theorem fin_neg_far (h : r.toList = []) (h0 : (p0 * 3600 + p1 * 60 + p2 == 0) = false) (h1 : 604799 < p0 * 3600 + p1 * 60 + p2) : fin mb (3600 * p0 + 60 * p1 + p2) (bl r) = (0, 3) := by
  rw [fin, if_neg (by rintro (a | a); exact a (nil_bl h); rw [beq_eq_false_iff_ne] at h0; exact h0 (by omega)), if_pos (by omega)]
theorem fin_neg (h : r.toList = []) (hm : mb = true) (h0 : (p0 * 3600 + p1 * 60 + p2 == 0) = false) (h1 : p0 * 3600 + p1 * 60 + p2 ≤ 604799) : fin mb (3600 * p0 + 60 * p1 + p2) (bl r) = (-(p0 * 3600 + p1 * 60 + p2), 0) := by
  rw [fin, if_neg (by rintro (a | a); exact a (nil_bl h); rw [beq_eq_false_iff_ne] at h0; exact h0 (by omega)), if_neg (by omega), if_pos hm]
  congr 1; omega
theorem fin_pos (h : r.toList = []) (hm : ¬ mb = true) (h1 : p0 * 3600 + p1 * 60 + p2 ≤ 604799) : fin mb (3600 * p0 + 60 * p1 + p2) (bl r) = (p0 * 3600 + p1 * 60 + p2, 0) := by
  rw [fin, if_neg (by rintro (a | a); exact a (nil_bl h); exact hm a.1), if_neg (by omega), if_neg hm]
  congr 1; omega
end
end Go.Proofs.YtoabengifbokdaaDoor.P4
