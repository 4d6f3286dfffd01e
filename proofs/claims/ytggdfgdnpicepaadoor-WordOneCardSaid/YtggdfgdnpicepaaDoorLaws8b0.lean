/- What the law WordShort leans on (chapter 8). -/
import Derived.Test.YtggdfgdnpicepaaDoorLst8
namespace Go.Proofs.YtggdfgdnpicepaaDoor
open Go.RowKit Go.Proofs
set_option linter.unusedVariables false
set_option linter.unusedSimpArgs false

theorem u8_bounds {n : Int} (h : (Lit.int .u8 n).wf = true) : 0 ≤ n ∧ n ≤ 255 := by
  have := h
  simp only [Lit.wf, Bool.and_eq_true, decide_eq_true_eq, show IntKind.u8.min = 0 from rfl, show IntKind.u8.max = 255 from rfl] at this
  omega
theorem u16_bounds {n : Int} (h : (Lit.int .u16 n).wf = true) : 0 ≤ n ∧ n ≤ 65535 := by
  have := h
  simp only [Lit.wf, Bool.and_eq_true, decide_eq_true_eq, show IntKind.u16.min = 0 from rfl, show IntKind.u16.max = 65535 from rfl] at this
  omega
/-- the three letters of a short word -/
def Three (l : List UInt8) : Prop := ∃ a b c : UInt8, l = [a, b, c] ∧ ((65 : Int) ≤ (a.toNat : Int) ∧ (a.toNat : Int) ≤ 90) ∧ ((97 : Int) ≤ (b.toNat : Int) ∧ (b.toNat : Int) ≤ 122) ∧ ((97 : Int) ≤ (c.toNat : Int) ∧ (c.toNat : Int) ≤ 122)
def threeB (l : List UInt8) : Bool := match l with | [a, b, c] => decide (65 ≤ a.toNat ∧ a.toNat ≤ 90) && decide (97 ≤ b.toNat ∧ b.toNat ≤ 122) && decide (97 ≤ c.toNat ∧ c.toNat ≤ 122) | _ => false
theorem three_of {l : List UInt8} (h : threeB l = true) : Three l := by
  unfold threeB at h
  split at h
  · rename_i a b c
    simp only [Bool.and_eq_true, decide_eq_true_eq] at h
    exact ⟨a, b, c, rfl, by omega, by omega, by omega⟩
  · cases h
theorem short_months : ∀ k, k < 12 → threeB (P8.short (P8.word P8.months k)) = true := by decide +kernel
theorem short_weeks : ∀ k, k < 7 → threeB (P8.short (P8.word P8.weeks k)) = true := by decide +kernel
set_option maxRecDepth 100000 in
set_option maxHeartbeats 4000000 in
theorem low_any (W0 : List UInt8) (w : World) (h3 : 3 ≤ W0.length) (h9 : W0.length ≤ 9) (hsm : ∀ c ∈ W0, 97 ≤ c ∧ c ≤ 122) :
    Calls Tryd.prog 40 #[.string (str (P8.short W0))] w fun e w' => e = .returned (.string (str (W0.take 3))) ∧ Below w.heap.size w w' := by
  obtain ⟨c, r, rfl⟩ : ∃ c r, W0 = c :: r := by cases W0 with | nil => simp at h3 | cons c r => exact ⟨c, r, rfl⟩
  have hc := hsm c (by simp)
  have hn1 : 97 ≤ c.toNat := UInt8.le_iff_toNat_le.1 hc.1
  have hn2 : c.toNat ≤ 122 := UInt8.le_iff_toNat_le.1 hc.2
  have hd : (c - 32).toNat = c.toNat - 32 := UInt8.toNat_sub_of_le _ _ (by rw [UInt8.le_iff_toNat_le]; simp; omega)
  obtain ⟨S, hS⟩ : ∃ S, P8.short (c :: r) = S := ⟨_, rfl⟩
  have hS2 : S = (c - 32) :: r.take 2 := by rw [← hS]; rfl
  have hr2 : (r.take 2).length = 2 := by simp; simp at h3; omega
  have hsz : (str S).size = 3 := by rw [str_size, hS2, List.length_cons, hr2]
  have hix : (str S)[0]'(by rw [hsz]; decide) = c - 32 := by
    subst hS2; rfl
  have e2 : (str S).extract 1 3 = str (r.take 2) := by
    rw [hS2, str_cut]
    congr 1
    show (r.take 2).take 2 = r.take 2
    rw [List.take_take]; rfl
  rw [hS]
  have x1 : IntKind.u8.wrap (((c - 32).toNat : Int) + 97) = (c.toNat : Int) + 65 := by rw [u8_id (by omega)]; omega
  have x2 : IntKind.u8.wrap (c.toNat : Int) = (c.toNat : Int) := by rw [u8_id (by omega)]
  have x3 : (c.toNat : Int) % 256 = (c.toNat : Int) := by omega
  have hcv := conv_byte (c.toNat : Int)
  have hp : (ByteArray.empty.push (UInt8.ofNat (c.toNat : Int).toNat)) = str [c] := by
    have : UInt8.ofNat (c.toNat : Int).toNat = c := by
      apply UInt8.toNat_inj.1
      simp
    rw [this]; rfl
  rw [hp] at hcv
  have q1 : ∀ W, (Op.stringOp .add (str [c]) ((str S).extract 1 3)).run Tryd.prog W = .ok (.string (str ((c :: r).take 3))) W := fun W => by
    rw [e2]
    rw [run_string_add_sum (w := W) _ _ (by rw [str_size, str_size]; simp; omega), str_append]; rfl
  generalize str ((c :: r).take 3) = R at q1 ⊢
  clear hsm hc e2 hn1 hn2 hp hd hS hS2 hr2
  go_enter Tryd.func40, Tryd.ntmps40
  go_wp2_with fail
  go_region
  go_wp2_with fail
  go_ret
  exact ⟨rfl, ((Below.refl _ _).alloc (Nat.le_refl _) _).drew⟩
theorem num_found {first : Int} {l w : List UInt8} {L : List (List UInt8)} {i : Nat} (hl : l.map P8.low = w) (h : P8.find w L = ((i : Int), true)) : P8.num first l L = (first + i, 0) := by
  rw [num_pair, hl, h, if_pos rfl]
end Go.Proofs.YtggdfgdnpicepaaDoor
