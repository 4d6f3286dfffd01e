/- The walks of same, of slices.Equal at links and of Few (chapter 32). -/
import Derived.Test.YtggdfgdnpicepaaDoorRep32b
import Derived.BigQuiet
import Derived.Deep.QuietTactic
namespace Go.Proofs.YtggdfgdnpicepaaDoor
open Go.RowKit
set_option linter.unusedVariables false
set_option linter.unusedSimpArgs false

theorem guard_any (op : BinOp) (t : TypeId) (ht : Tryd.prog.eqGuardType Tryd.prog.depth t = false) (x y : Operand) (xs ys : Array Value) (w : World) : (eqGuard op t x y (.agg xs) (.agg ys)).run Tryd.prog w = .ok () w := run_eqGuard_agg w op _ x y xs ys ht
theorem guard_change (op : BinOp) (x y : Operand) (xs ys : Array Value) (w : World) : (eqGuard op 50 x y (.agg xs) (.agg ys)).run Tryd.prog w = .ok () w := guard_any op _ (by kernel_rfl) x y xs ys w
theorem guard_link (op : BinOp) (x y : Operand) (xs ys : Array Value) (w : World) : (eqGuard op 61 x y (.agg xs) (.agg ys)).run Tryd.prog w = .ok () w := guard_any op _ (by kernel_rfl) x y xs ys w
theorem eqi_place (d : Nat) (w : World) (a0 a1 a2 b0 b1 b2 : Int) : (Op.equalIn (d + 2) 48 (.agg #[.int .i64 a0, .int .i64 a1, .int .i64 a2]) (.agg #[.int .i64 b0, .int .i64 b1, .int .i64 b2])).run Tryd.prog w = .ok (decide (a0 = b0 ∧ a1 = b1 ∧ a2 = b2)) w := by
  have p0 : Tryd.prog.stoodInHeld 48 = false := by kernel_rfl
  rw [run_equalIn_agg w (d + 1) 48 _ _ (by unfold Program.fieldsOf; rw [Tryd.underlying48]) p0]
  unfold Program.fieldsOf
  rw [Tryd.underlying48]
  simp [Op.eqFields, go_sem, Tryd.underlying3]
  by_cases h0 : a0 = b0
  rotate_left
  · simp [h0]
  by_cases h1 : a1 = b1
  rotate_left
  · simp [h1]
  by_cases h2 : a2 = b2
  rotate_left
  · simp [h2]
  simp [h0, h1, h2]
theorem neq_change (w : World) (a0 a1 a2 a3 b0 b1 b2 b3 : Int) : (binOp .neq 50 (.agg #[.int .i64 a0, .int .i64 a1, .int .i64 a2, .int .i64 a3]) (.agg #[.int .i64 b0, .int .i64 b1, .int .i64 b2, .int .i64 b3])).run Tryd.prog w = .ok (.bool (!decide (a0 = b0 ∧ a1 = b1 ∧ a2 = b2 ∧ a3 = b3))) w := by
  have p0 : Tryd.prog.stoodInHeld 50 = false := by kernel_rfl
  have q : (Op.equalIn 10000 50 (.agg #[.int .i64 a0, .int .i64 a1, .int .i64 a2, .int .i64 a3]) (.agg #[.int .i64 b0, .int .i64 b1, .int .i64 b2, .int .i64 b3])).run Tryd.prog w = .ok (decide (a0 = b0 ∧ a1 = b1 ∧ a2 = b2 ∧ a3 = b3)) w := by
    rw [run_equalIn_agg w 9999 50 _ _ (by unfold Program.fieldsOf; rw [Tryd.underlying50]) p0]
    unfold Program.fieldsOf
    rw [Tryd.underlying50]
    simp [Op.eqFields, go_sem, Tryd.underlying3, Tryd.underlying48, eqi_place]
    by_cases h0 : a0 = b0
    rotate_left
    · simp [h0]
    by_cases h1 : a1 = b1
    rotate_left
    · simp [h1]
    by_cases h2 : a2 = b2
    rotate_left
    · simp [h2]
    by_cases h3 : a3 = b3
    rotate_left
    · simp [h3]
    simp [h0, h1, h2, h3]
  rw [run_neq_struct, q]; rfl
theorem neq_link (w : World) (a0 a1 b0 b1 : ByteArray) : (binOp .neq 61 (.agg #[.string a0, .string a1]) (.agg #[.string b0, .string b1])).run Tryd.prog w = .ok (.bool (!decide (a0 = b0 ∧ a1 = b1))) w := by
  have p0 : Tryd.prog.stoodInHeld 61 = false := by kernel_rfl
  have q : (Op.equalIn 10000 61 (.agg #[.string a0, .string a1]) (.agg #[.string b0, .string b1])).run Tryd.prog w = .ok (decide (a0 = b0 ∧ a1 = b1)) w := by
    rw [run_equalIn_agg w 9999 61 _ _ (by unfold Program.fieldsOf; rw [Tryd.underlying61]) p0]
    unfold Program.fieldsOf
    rw [Tryd.underlying61]
    simp [Op.eqFields, go_sem, Tryd.underlying9, toList_eq_iff]
    by_cases h0 : a0 = b0
    rotate_left
    · simp [h0]
    by_cases h1 : a1 = b1
    rotate_left
    · simp [h1]
    simp [h0, h1]
  rw [run_neq_struct, q]; rfl
attribute [local go_sem high] neq_change neq_link guard_change guard_link
/-- two lists are alike up to a place -/
def alike {α : Type} (L M : List α) (k : Nat) : Prop := ∀ j, j < k → L[j]? = M[j]?
theorem alike_all {α : Type} {L M : List α} (h : L.length = M.length) (k : alike L M L.length) : L = M := by
  apply List.ext_getElem?
  intro j
  by_cases hj : j < L.length
  · exact k j hj
  · rw [List.getElem?_eq_none (by omega), List.getElem?_eq_none (by omega)]
theorem alike_succ {α : Type} {L M : List α} {k : Nat} (h : alike L M k) {a : α} (ha : L[k]? = some a) (hb : M[k]? = some a) : alike L M (k + 1) := fun j hj => by
  by_cases e : j < k
  · exact h j e
  · obtain rfl : j = k := by omega
    rw [ha, hb]

set_option maxRecDepth 100000 in
set_option maxHeartbeats 4000000 in
theorem same_any (A B : Option Addr) (ca cb : Nat) (L M : List P32.CV) (R : Bool) (w : World) (hR : R = true ↔ L = M) (hA : CellsIn 4 P32.CV.cells w A L) (hB : CellsIn 4 P32.CV.cells w B M) (hl : L.length ≤ 1000) (hm : M.length ≤ maxLen) :
    Calls Tryd.prog 19 #[.slice A L.length ca, .slice B M.length cb] w fun e w' => e = .returned (.bool R) ∧ Q w w' := by
  unfold maxLen at hm
  have HR := Lib.hid hR; have HA := Lib.hid hA; have HB := Lib.hid hB
  clear hR hA hB
  by_cases hnn : L.length = M.length
  rotate_left
  · have hb : ((L.length : Int) != (M.length : Int)) = true := by rw [bne_iff_ne]; omega
    obtain rfl : R = false := by
      cases R with
      | false => rfl
      | true => exact absurd (congrArg List.length (HR.out.1 rfl)) hnn
    clear hnn
    go_enter Tryd.func19, Tryd.ntmps19
    go_wp2_with fail
    go_ret
    exact ⟨rfl, Q.refl _⟩
  have hb : ((L.length : Int) != (M.length : Int)) = false := by rw [bne_eq_false_iff_eq]; omega
  have HN := Lib.hid hnn
  have hli : (L.length : Int) ≤ 1000 := by omega
  clear hnn
  go_enter Tryd.func19, Tryd.ntmps19
  go_wp2_with fail
  go_loopw [5] (fun i wr => ∃ k n : Nat, k ≤ L.length ∧ i = .int .i64 k ∧ Hid (alike L M k) ∧ w.drewN n = wr) (fun i _ => L.length - (intOf i).toNat)
  case atStart => exact ⟨0, 0, Nat.zero_le _, rfl, Lib.hid (fun j h => by omega), rfl⟩
  case round =>
    obtain ⟨k, n0, hk, rfl, hal, rfl⟩ := hrel
    by_cases hlt : k < L.length
    · obtain ⟨a, ha⟩ : ∃ a, L[k]? = some a := ⟨_, List.getElem?_eq_getElem hlt⟩
      obtain ⟨b, hbk⟩ : ∃ b, M[k]? = some b := ⟨_, List.getElem?_eq_getElem (by have := HN.out; omega)⟩
      obtain ⟨ga, oa, rfl, hga, hat⟩ := HA.out k a ha
      obtain ⟨gb, oB, rfl, hgb, hbt⟩ := HB.out k b hbk
      have HAK := Lib.hid ha; have HBK := Lib.hid hbk; have HAT := Lib.hid hat; have HBT := Lib.hid hbt
      have hki : (k : Int) < (L.length : Int) := by omega
      have hki2 : (k : Int) < (M.length : Int) := by have := HN.out; omega
      have hk0 : (0 : Int) ≤ (k : Int) := by omega
      clear ha hbk hat hbt
      obtain ⟨a0, a1, a2, a3⟩ := a
      obtain ⟨b0, b1, b2, b3⟩ := b
      have ca0 : w.cell? ⟨ga, oa + k * 4, none⟩ = some (.int .i64 a0) := HAT.out 0 _ rfl
      have ca1 : w.cell? ⟨ga, oa + k * 4 + 1, none⟩ = some (.int .i64 a1) := HAT.out 1 _ rfl
      have ca2 : w.cell? ⟨ga, oa + k * 4 + 2, none⟩ = some (.int .i64 a2) := HAT.out 2 _ rfl
      have ca3 : w.cell? ⟨ga, oa + k * 4 + 3, none⟩ = some (.int .i64 a3) := HAT.out 3 _ rfl
      have cb0 : w.cell? ⟨gb, oB + k * 4, none⟩ = some (.int .i64 b0) := HBT.out 0 _ rfl
      have cb1 : w.cell? ⟨gb, oB + k * 4 + 1, none⟩ = some (.int .i64 b1) := HBT.out 1 _ rfl
      have cb2 : w.cell? ⟨gb, oB + k * 4 + 2, none⟩ = some (.int .i64 b2) := HBT.out 2 _ rfl
      have cb3 : w.cell? ⟨gb, oB + k * 4 + 3, none⟩ = some (.int .i64 b3) := HBT.out 3 _ rfl
      obtain ⟨D, hD⟩ : ∃ D, decide (a0 = b0 ∧ a1 = b1 ∧ a2 = b2 ∧ a3 = b3) = D := ⟨_, rfl⟩
      have hnq : ∀ W, (binOp .neq 50 (.agg #[.int .i64 a0, .int .i64 a1, .int .i64 a2, .int .i64 a3]) (.agg #[.int .i64 b0, .int .i64 b1, .int .i64 b2, .int .i64 b3])).run Tryd.prog W = .ok (.bool (!D)) W := fun W => by rw [← hD]; exact neq_change W a0 a1 a2 a3 b0 b1 b2 b3
      have HD := Lib.hid hD
      clear hD HAT HBT
      cases D with
      | false =>
        obtain rfl : R = false := by
          cases R with
          | false => rfl
          | true =>
            have e := HR.out.1 rfl
            have q := HAK.out.symm.trans ((congrArg (fun z => z[k]?) e).trans HBK.out)
            injection q with q; injection q with q0 q1 q2 q3
            exact absurd ⟨q0, q1, q2, q3⟩ (of_decide_eq_false HD.out)
        clear HD HAK HBK hal
        go_wp2_with fail
        go_quiet (fail)
        go_wp2_with fail
        go_ret
        exact ⟨rfl, _, World.drewN_drewN _ _ _⟩
      | true =>
        have HAL : Hid (alike L M (k + 1)) := Lib.hid (by
          obtain ⟨q0, q1, q2, q3⟩ := of_decide_eq_true HD.out
          subst q0 q1 q2 q3
          exact alike_succ hal.out HAK.out HBK.out)
        clear HD HAK HBK hal
        go_wp2_with fail
        go_quiet (fail)
        go_wp2_with fail
        go_roundw
        case rel => exact ⟨k + 1, _, by omega, by go_num, HAL, rfl⟩
        case measure => simp [intOf]; omega
    · obtain rfl : k = L.length := by omega
      have hki : ¬ (L.length : Int) < (L.length : Int) := by omega
      obtain rfl : R = true := HR.out.2 (alike_all HN.out hal.out)
      go_wp2_with fail
      go_ret
      exact ⟨rfl, _, rfl⟩
set_option maxRecDepth 100000 in
set_option maxHeartbeats 4000000 in
theorem equal_any (A B : Option Addr) (ca cb : Nat) (L M : List KV) (R : Bool) (w : World) (hR : R = true ↔ L = M) (hA : CellsIn 2 KV.cells w A L) (hB : CellsIn 2 KV.cells w B M) (hl : L.length ≤ 1000) (hm : M.length ≤ maxLen) :
    Calls Tryd.prog 44 #[.slice A L.length ca, .slice B M.length cb] w fun e w' => e = .returned (.bool R) ∧ Q w w' := by
  unfold maxLen at hm
  have HR := Lib.hid hR; have HA := Lib.hid hA; have HB := Lib.hid hB
  clear hR hA hB
  by_cases hnn : L.length = M.length
  rotate_left
  · have hb : ((L.length : Int) != (M.length : Int)) = true := by rw [bne_iff_ne]; omega
    obtain rfl : R = false := by
      cases R with
      | false => rfl
      | true => exact absurd (congrArg List.length (HR.out.1 rfl)) hnn
    clear hnn
    go_enter Tryd.func44, Tryd.ntmps44
    go_wp2_with fail
    go_ret
    exact ⟨rfl, Q.refl _⟩
  have hb : ((L.length : Int) != (M.length : Int)) = false := by rw [bne_eq_false_iff_eq]; omega
  have HN := Lib.hid hnn
  have hli : (L.length : Int) ≤ 1000 := by omega
  clear hnn
  go_enter Tryd.func44, Tryd.ntmps44
  go_wp2_with fail
  go_loopw [13] (fun i wr => ∃ k n : Nat, k ≤ L.length ∧ i = .int .i64 k ∧ Hid (alike L M k) ∧ w.drewN n = wr) (fun i _ => L.length - (intOf i).toNat)
  case atStart => exact ⟨0, 0, Nat.zero_le _, rfl, Lib.hid (fun j h => by omega), rfl⟩
  case round =>
    obtain ⟨k, n0, hk, rfl, hal, rfl⟩ := hrel
    by_cases hlt : k < L.length
    · obtain ⟨a, ha⟩ : ∃ a, L[k]? = some a := ⟨_, List.getElem?_eq_getElem hlt⟩
      obtain ⟨b, hbk⟩ : ∃ b, M[k]? = some b := ⟨_, List.getElem?_eq_getElem (by have := HN.out; omega)⟩
      obtain ⟨ga, oa, rfl, hga, hat⟩ := HA.out k a ha
      obtain ⟨gb, oB, rfl, hgb, hbt⟩ := HB.out k b hbk
      have HAK := Lib.hid ha; have HBK := Lib.hid hbk; have HAT := Lib.hid hat; have HBT := Lib.hid hbt
      have hki : (k : Int) < (L.length : Int) := by omega
      have hki2 : (k : Int) < (M.length : Int) := by have := HN.out; omega
      have hk0 : (0 : Int) ≤ (k : Int) := by omega
      clear ha hbk hat hbt
      obtain ⟨a0, a1⟩ := a
      obtain ⟨b0, b1⟩ := b
      have ca0 : w.cell? ⟨ga, oa + k * 2, none⟩ = some (.string a0) := HAT.out 0 _ rfl
      have ca1 : w.cell? ⟨ga, oa + k * 2 + 1, none⟩ = some (.string a1) := HAT.out 1 _ rfl
      have cb0 : w.cell? ⟨gb, oB + k * 2, none⟩ = some (.string b0) := HBT.out 0 _ rfl
      have cb1 : w.cell? ⟨gb, oB + k * 2 + 1, none⟩ = some (.string b1) := HBT.out 1 _ rfl
      obtain ⟨D, hD⟩ : ∃ D, decide (a0 = b0 ∧ a1 = b1) = D := ⟨_, rfl⟩
      have hnq : ∀ W, (binOp .neq 61 (.agg #[.string a0, .string a1]) (.agg #[.string b0, .string b1])).run Tryd.prog W = .ok (.bool (!D)) W := fun W => by rw [← hD]; exact neq_link W a0 a1 b0 b1
      have HD := Lib.hid hD
      clear hD HAT HBT
      cases D with
      | false =>
        obtain rfl : R = false := by
          cases R with
          | false => rfl
          | true =>
            have e := HR.out.1 rfl
            have q := HAK.out.symm.trans ((congrArg (fun z => z[k]?) e).trans HBK.out)
            injection q with q; injection q with q0 q1
            exact absurd ⟨q0, q1⟩ (of_decide_eq_false HD.out)
        clear HD HAK HBK hal
        go_wp2_with fail
        go_quiet (fail)
        go_wp2_with fail
        go_ret
        exact ⟨rfl, _, World.drewN_drewN _ _ _⟩
      | true =>
        have HAL : Hid (alike L M (k + 1)) := Lib.hid (by
          obtain ⟨q0, q1⟩ := of_decide_eq_true HD.out
          subst q0 q1
          exact alike_succ hal.out HAK.out HBK.out)
        clear HD HAK HBK hal
        go_wp2_with fail
        go_quiet (fail)
        go_wp2_with fail
        go_roundw
        case rel => exact ⟨k + 1, _, by omega, by go_num, HAL, rfl⟩
        case measure => simp [intOf]; omega
    · obtain rfl : k = L.length := by omega
      have hki : ¬ (L.length : Int) < (L.length : Int) := by omega
      obtain rfl : R = true := HR.out.2 (alike_all HN.out hal.out)
      go_wp2_with fail
      go_ret
      exact ⟨rfl, _, rfl⟩
/-- few parts -/
def few (s : SV) : Prop := s.rules.length ≤ 40 ∧ s.zones.length ≤ 10 ∧ s.links.length ≤ 40 ∧ s.shifts.length ≤ 40 ∧ ∀ z ∈ s.zones, z.eras.length ≤ 20
set_option maxRecDepth 100000 in
set_option maxHeartbeats 4000000 in
theorem few_any (s : SV) (R : Bool) (w : World) (hR : R = true ↔ few s) (hS : SrcIn w s) :
    Calls Tryd.prog 15 #[.agg #[.slice s.rA s.rules.length s.rc, .slice s.zA s.zones.length s.zc, .slice s.kA s.links.length s.kc, .slice s.hA s.shifts.length s.hc]] w fun e w' => e = .returned (.bool R) ∧ Below w.heap.size w w' := by
  have HR := Lib.hid hR
  have hb0 := (Below.refl w.heap.size w).alloc (Nat.le_refl _) (.cells #[.slice s.rA s.rules.length s.rc, .slice s.zA s.zones.length s.zc, .slice s.kA s.links.length s.kc, .slice s.hA s.shifts.length s.hc] 27)
  have hB0 := Blk.new w 27 #[.slice s.rA s.rules.length s.rc, .slice s.zA s.zones.length s.zc, .slice s.kA s.links.length s.kc, .slice s.hA s.shifts.length s.hc]
  have k0 := (hB0.cell 0).trans rfl
  have k1 := (hB0.cell 1).trans rfl
  have k2 := (hB0.cell 2).trans rfl
  have k3 := (hB0.cell 3).trans rfl
  have HZ := Lib.hid hS.zones
  clear hR hS hB0
  by_cases h0 : (40 : Int) < (s.rules.length : Int)
  · exact (by
    obtain rfl : R = false := by
      cases R with
      | false => rfl
      | true =>
        obtain ⟨q0, q1, q2, q3, q4⟩ := HR.out.1 rfl
        omega
    clear HR HZ hb0
    go_enter Tryd.func15, Tryd.ntmps15
    go_wp2_with fail
    go_ret
    exact ⟨rfl, (Below.refl w.heap.size w).alloc (Nat.le_refl _) _⟩)
  by_cases h1 : (10 : Int) < (s.zones.length : Int)
  · exact (by
    obtain rfl : R = false := by
      cases R with
      | false => rfl
      | true =>
        obtain ⟨q0, q1, q2, q3, q4⟩ := HR.out.1 rfl
        omega
    clear HR HZ hb0
    go_enter Tryd.func15, Tryd.ntmps15
    go_wp2_with fail
    go_ret
    exact ⟨rfl, (Below.refl w.heap.size w).alloc (Nat.le_refl _) _⟩)
  by_cases h2 : (40 : Int) < (s.links.length : Int)
  · exact (by
    obtain rfl : R = false := by
      cases R with
      | false => rfl
      | true =>
        obtain ⟨q0, q1, q2, q3, q4⟩ := HR.out.1 rfl
        omega
    clear HR HZ hb0
    go_enter Tryd.func15, Tryd.ntmps15
    go_wp2_with fail
    go_ret
    exact ⟨rfl, (Below.refl w.heap.size w).alloc (Nat.le_refl _) _⟩)
  by_cases h3 : (40 : Int) < (s.shifts.length : Int)
  · exact (by
    obtain rfl : R = false := by
      cases R with
      | false => rfl
      | true =>
        obtain ⟨q0, q1, q2, q3, q4⟩ := HR.out.1 rfl
        omega
    clear HR HZ hb0
    go_enter Tryd.func15, Tryd.ntmps15
    go_wp2_with fail
    go_ret
    exact ⟨rfl, (Below.refl w.heap.size w).alloc (Nat.le_refl _) _⟩)
  have hz10 : (s.zones.length : Int) ≤ 10 := by omega
  go_enter Tryd.func15, Tryd.ntmps15
  go_wp2_with fail
  go_loop [3] (fun i => ∃ k : Nat, k ≤ s.zones.length ∧ i = .int .i64 k ∧ Hid (∀ j z, j < k → s.zones[j]? = some z → z.eras.length ≤ 20)) (fun i => s.zones.length - (intOf i).toNat)
  case atStart => exact ⟨0, Nat.zero_le _, rfl, Lib.hid (fun j z h => by omega)⟩
  case round =>
    obtain ⟨k, hk, rfl, hal⟩ := hrel
    by_cases hlt : k < s.zones.length
    · obtain ⟨z, hz⟩ : ∃ z, s.zones[k]? = some z := ⟨_, List.getElem?_eq_getElem hlt⟩
      obtain ⟨g, o, hA, hg, hat⟩ := HZ.out k z hz
      have a1 := hat 1 _ rfl
      rw [hA] at k1 ⊢
      have hki : (k : Int) < (s.zones.length : Int) := by omega
      by_cases h20 : (20 : Int) < (z.eras.length : Int)
      · obtain rfl : R = false := by
          cases R with
          | false => rfl
          | true => exact absurd ((HR.out.1 rfl).2.2.2.2 z (List.mem_of_getElem? hz)) (by omega)
        clear hat hz hal
        go_wp2_with fail
        go_ret
        exact ⟨rfl, (Below.refl w.heap.size w).alloc (Nat.le_refl _) _⟩
      · have HAL : Hid (∀ j z, j < k + 1 → s.zones[j]? = some z → z.eras.length ≤ 20) := Lib.hid (fun j y hj hy => by
          by_cases e : j < k
          · exact hal.out j y e hy
          · obtain rfl : j = k := by omega
            rw [hz] at hy; injection hy with hy; rw [← hy]; omega)
        clear hat hz hal
        go_wp2_with fail
        go_round
        case rel => exact ⟨k + 1, by omega, by go_num, HAL⟩
        case measure => simp [intOf]; omega
    · obtain rfl : k = s.zones.length := by omega
      have hki : ¬ (s.zones.length : Int) < (s.zones.length : Int) := by omega
      obtain rfl : R = true := HR.out.2 ⟨by omega, by omega, by omega, by omega, fun z hz => by
        obtain ⟨j, hj⟩ := List.mem_iff_getElem?.1 hz
        exact hal.out j z (List.getElem?_eq_some_iff.mp hj).1 hj⟩
      go_wp2_with fail
      go_ret
      exact ⟨rfl, (Below.refl w.heap.size w).alloc (Nat.le_refl _) _⟩
end Go.Proofs.YtggdfgdnpicepaaDoor
