/- The walks of the numbers and times of a draft (chapter 17). -/
import Derived.Test.YtmhciidliicheaaDoorPlain17
import Derived.Test.YtmhciidliicheaaDoorSlices
import Derived.Test.YtmhciidliicheaaDoorBlk
import Derived.IntWalk
namespace Go.Proofs.YtmhciidliicheaaDoor
open Go.RowKit Go.Lib
set_option linter.unusedVariables false

/-- the bytes of a draft -/
structure Dr (w : World) (A : Option Addr) (D : List Int) : Prop where
  len : D.length ≤ maxLen
  cells : CellsIn 1 u8Cell w A D
  bytes : ∀ n ∈ D, 0 ≤ n ∧ n ≤ 255
theorem Dr.below {w w' : World} {A : Option Addr} {D : List Int} (h : Dr w A D) (hb : Below w.heap.size w w') : Dr w' A D := ⟨h.len, h.cells.below hb, h.bytes⟩
theorem Dr.alloc {w : World} {A : Option Addr} {D : List Int} (h : Dr w A D) (ob : Obj) : Dr (w.alloc ob) A D := h.below ((Below.refl _ _).alloc (Nat.le_refl _) ob)
theorem at_zero {D : List Int} (h : D.length = 0) (i m : Nat) : P17.at_ D i m = 0 := by unfold P17.at_; rw [if_pos h]
theorem at_pos {D : List Int} {n : Int} {i : Nat} (h : D[i % D.length]? = some n) (m : Nat) : P17.at_ D i m = n.toNat % m := by
  have h0 : 0 < D.length := Nat.lt_of_le_of_lt (Nat.zero_le _) (List.getElem?_eq_some_iff.mp h).1
  unfold P17.at_; rw [if_neg (by omega), h]; rfl
set_option maxRecDepth 100000 in
set_option maxHeartbeats 8000000 in
theorem at17_any (A : Option Addr) (c : Nat) (D : List Int) (i m : Nat) (w : World) (hm : 1 ≤ m ∧ m ≤ 1000) (hi : i ≤ 1000) (hD : Dr w A D) :
    Calls Tryd.prog 47 #[.slice A D.length c, .int .i64 (i : Int), .int .i64 (m : Int)] w fun e w' => e = .returned (.int .i64 (P17.at_ D i m : Int)) ∧ w' = w := by
  obtain ⟨hl, hF, hG⟩ := hD
  unfold maxLen at hl
  have hli : (D.length : Int) ≤ 9223372036854775807 := by omega
  obtain ⟨m1, m2⟩ := hm
  have hm0 : ¬ ((m : Int) = 0) := by omega
  have hi2 : (i : Int) ≤ 1000 := by omega
  rcases Nat.eq_zero_or_pos D.length with h0 | h0
  · rw [at_zero h0, h0]
    clear hF hG hl hli h0
    go_enter Tryd.func47, Tryd.ntmps47
    go_wp2_with fail
    go_ret
    exact ⟨rfl, rfl⟩
  · have hjl : i % D.length < D.length := Nat.mod_lt _ h0
    obtain ⟨n, hn⟩ : ∃ n, D[i % D.length]? = some n := ⟨_, List.getElem?_eq_getElem hjl⟩
    rw [at_pos hn]
    obtain ⟨b, o, rfl, hbl, hcc⟩ := hF (i % D.length) n hn
    have c0 : w.cell? ⟨b, o + i % D.length, none⟩ = some (.int .u8 n) := by
      have q := hcc 0 _ rfl
      rwa [Nat.mul_one, Nat.add_zero] at q
    obtain ⟨n0, n255⟩ := hG n (List.mem_of_getElem? hn)
    have eR : n.tmod (m : Int) = ((n.toNat % m : Nat) : Int) := by
      rw [Int.tmod_eq_emod_of_nonneg n0]
      have : n = (n.toNat : Int) := by omega
      rw [this]; exact (Int.natCast_emod _ _).symm
    have hrm : ((n.toNat % m : Nat) : Int) ≤ 255 := by
      have := Nat.mod_le n.toNat m
      omega
    have eJ : (i : Int).tmod (D.length : Int) = ((i % D.length : Nat) : Int) := by rw [Int.tmod_eq_emod_of_nonneg (by omega)]; exact (Int.natCast_emod i D.length).symm
    have hj2 : ((i % D.length : Nat) : Int) < (D.length : Int) := by omega
    have b0 : ((D.length : Int) == 0) = false := by rw [beq_eq_false_iff_ne]; omega
    have d0 : ¬ ((D.length : Int) = 0) := by omega
    clear hcc hn hG hF hl
    generalize n.toNat % m = r at *
    generalize i % D.length = j at *
    generalize D.length = N at *
    go_enter Tryd.func47, Tryd.ntmps47
    go_wp2_with fail
    go_ret
    exact ⟨rfl, rfl⟩
/-- the same, with the place as an Int -/
theorem at17_at (A : Option Addr) (c : Nat) (D : List Int) (i m : Nat) (J : Int) (hJ : J = i) (w : World) (hm : 1 ≤ m ∧ m ≤ 1000) (hi : i ≤ 1000) (hD : Dr w A D) :
    Calls Tryd.prog 47 #[.slice A D.length c, .int .i64 J, .int .i64 (m : Int)] w fun e w' => e = .returned (.int .i64 (P17.at_ D i m : Int)) ∧ w' = w := by
  rw [hJ]; exact at17_any A c D i m w hm hi hD
end Go.Proofs.YtmhciidliicheaaDoor
