/- The walks of small functions of chapters 7 and 21: letters, abbreviations, what stands around %s and a slash. -/
import Derived.Test.YtbajlkpjemandaaDoorPlain21b
import Derived.Test.YtbajlkpjemandaaDoorNum20c
import Derived.Test.YtbajlkpjemandaaDoorNum20d
import Derived.Deep.WholeRow
import Derived.Shelf.GgClosure.StringsIndexFunc
import Derived.BigQuiet
namespace Go.Proofs.YtbajlkpjemandaaDoor
open Go.RowKit Go.Lib
set_option linter.unusedVariables false

/-- what chapters 21 and 24 read: the error of a number that is none, and some number of bytes -/
structure Vars21 (w : World) : Prop where
  num : Vars w
  max : ∃ m, w.cell? ⟨1, 0, none⟩ = some (.int .i64 m)
  big : 1 < w.heap.size
theorem Vars21.below {w w' : World} (h : Vars21 w) (hb : Below w.heap.size w w') : Vars21 w' := by
  obtain ⟨m, hm⟩ := h.max
  exact ⟨h.num.below hb, ⟨m, (hb.cell (p := ⟨1, 0, none⟩) h.big).trans hm⟩, Nat.lt_of_lt_of_le h.big hb.size⟩

/-- strings.Cut -/
theorem cut21 (s : ByteArray) (sep : List UInt8) (w : World) (hs : s.size ≤ 1000000) (hv : Vars21 w) :
    Calls Tryd.prog 53 #[.string s, .string (str sep)] w fun e w' => e = .returned (.tuple #[.string (str (Lib.cut (P4.bl s) sep).1), .string (str (Lib.cut (P4.bl s) sep).2.1), .bool (Lib.cut (P4.bl s) sep).2.2]) ∧ Q w w' := by
  obtain ⟨m, hm⟩ := hv.max
  exact Tryd.strings_Cut s (str sep) m w (by omega) hm

set_option maxRecDepth 100000 in
theorem rletter_any (c : UInt8) (w : World) :
    Calls Tryd.prog 114 #[.int .u8 (c.toNat : Int)] w fun e w' => e = .returned (.bool (P21.isL c)) ∧ w' = w := by
  have hR : P21.isL c = ((decide (65 ≤ c.toNat) && decide (c.toNat ≤ 90)) || (decide (97 ≤ c.toNat) && decide (c.toNat ≤ 122))) := rfl
  rw [hR]
  generalize c.toNat = n
  by_cases h1 : 65 ≤ n <;> by_cases h2 : n ≤ 90 <;> by_cases h3 : 97 ≤ n <;> by_cases h4 : n ≤ 122
  all_goals first | (exfalso; omega) | skip
  all_goals
    have i1 : (65 : Int) ≤ (n : Int) ↔ 65 ≤ n := by omega
    have i2 : (n : Int) ≤ 90 ↔ n ≤ 90 := by omega
    have i3 : (97 : Int) ≤ (n : Int) ↔ 97 ≤ n := by omega
    have i4 : (n : Int) ≤ 122 ↔ n ≤ 122 := by omega
    go_enter Tryd.func114, Tryd.ntmps114
    go_wp2_with fail
    go_ret
    exact ⟨by simp [h1, h2, h3, h4], rfl⟩
/-- letters alone, so far -/
theorem all_take_succ {l : List UInt8} {k : Nat} {c : UInt8} (h : l[k]? = some c) (ha : (l.take k).all P21.isL = true) (hc : P21.isL c = true) : (l.take (k + 1)).all P21.isL = true := by
  rw [List.take_add_one, h, List.all_append, ha]
  simp [hc]
theorem all_no {l : List UInt8} {k : Nat} {c : UInt8} (h : l[k]? = some c) (hc : P21.isL c = false) : l.all P21.isL = false := by
  cases q : l.all P21.isL with
  | false => rfl
  | true => rw [List.all_eq_true] at q; rw [q c (List.mem_of_getElem? h)] at hc; cases hc
set_option maxRecDepth 100000 in
set_option maxHeartbeats 4000000 in
theorem rletters_any (s : ByteArray) (w : World) (hs : s.size ≤ 1000000) :
    Calls Tryd.prog 94 #[.string s, .int .i64 3, .int .i64 6] w fun e w' => e = .returned (.bool (P21.abbr (P4.bl s))) ∧ w' = w := by
  obtain ⟨R, hR⟩ : ∃ R, P21.abbr (P4.bl s) = R := ⟨_, rfl⟩
  rw [hR]
  have HR := Lib.hid hR
  clear hR
  have hsi : (s.size : Int) ≤ 1000000 := by omega
  go_enter Tryd.func94, Tryd.ntmps94
  go_wp2_with fail
  go_loop [7] (fun i => ∃ k : Nat, k ≤ s.size ∧ i = .int .i64 (k : Int) ∧ Hid (((P4.bl s).take k).all P21.isL = true)) (fun i => s.size - (intOf i).toNat)
  case atStart => exact ⟨0, Nat.zero_le _, rfl, Lib.hid rfl⟩
  case round =>
    obtain ⟨k, hk, rfl, HA⟩ := hrel
    by_cases hlt : k < s.size
    · have hki : (k : Int) < (s.size : Int) := by omega
      have hb := P4.bl_get s k hlt
      obtain ⟨c, hc⟩ : ∃ c, s[k]'hlt = c := ⟨_, rfl⟩
      rw [hc] at hb
      have cL := rletter_any c w
      have HB := Lib.hid hb
      clear hb
      cases hL : P21.isL c with
      | true =>
        rw [hL] at cL
        have HN := Lib.hid (all_take_succ HB.out HA.out hL)
        clear hL
        go_wp2_with (go_at_call 114; refine cL.mono ?_; rintro e w' ⟨rfl, rfl⟩)
        go_round
        case rel => exact ⟨k + 1, by omega, by go_num, HN⟩
        case measure => simp [intOf]; omega
      | false =>
        rw [hL] at cL
        have HN : Hid (R = false) := by
          have q := all_no HB.out hL
          have r := HR.out
          unfold P21.abbr at r
          rw [q, Bool.and_false] at r
          exact Lib.hid r.symm
        clear hL
        go_wp2_with (go_at_call 114; refine cL.mono ?_; rintro e w' ⟨rfl, rfl⟩)
        go_ret
        exact ⟨by rw [HN.out]; rfl, rfl⟩
    · obtain rfl : k = s.size := by omega
      have HN : Hid (R = (decide (3 ≤ s.size) && decide (s.size ≤ 6))) := by
        have q := HA.out
        rw [List.take_of_length_le (by rw [P4.bl_len]; exact Nat.le_refl _)] at q
        have r := HR.out
        unfold P21.abbr at r
        rw [q, Bool.and_true, P4.bl_len] at r
        exact Lib.hid r.symm
      clear HA HR
      by_cases h3 : 3 ≤ s.size
      · have h3i : (3 : Int) ≤ (s.size : Int) := by omega
        by_cases h6 : s.size ≤ 6
        · have h6i : (s.size : Int) ≤ 6 := by omega
          rw [decide_eq_true h3, decide_eq_true h6] at HN
          go_wp2_with fail
          go_ret
          exact ⟨by rw [HN.out]; rfl, rfl⟩
        · have h6i : ¬ (s.size : Int) ≤ 6 := by omega
          rw [decide_eq_true h3, decide_eq_false h6] at HN
          go_wp2_with fail
          go_ret
          exact ⟨by rw [HN.out]; rfl, rfl⟩
      · have h3i : ¬ (3 : Int) ≤ (s.size : Int) := by omega
        rw [decide_eq_false h3] at HN
        go_wp2_with fail
        go_ret
        exact ⟨by rw [HN.out]; rfl, rfl⟩
set_option maxRecDepth 100000 in
theorem rabbr_any (s : ByteArray) (w : World) (hs : s.size ≤ 1000000) :
    Calls Tryd.prog 66 #[.string s] w fun e w' => e = .returned (.bool (P21.abbr (P4.bl s))) ∧ w' = w := by
  have c1 := rletters_any s w hs
  generalize P21.abbr (P4.bl s) = R at c1 ⊢
  go_enter Tryd.func66, Tryd.ntmps66
  go_wp2_with (go_at_call 94; refine c1.mono ?_; rintro e w' ⟨rfl, rfl⟩)
  go_ret
  exact ⟨rfl, rfl⟩
set_option maxRecDepth 100000 in
theorem is_any (s : ByteArray) (w : World) (hs : s.size ≤ 1000000) (hv : Vars w) :
    Calls Tryd.prog 54 #[.string s] w fun e w' => e = .returned (.bool (P21.num (P4.bl s))) ∧ Below w.heap.size w w' := by
  have c1 := nparse_any s w hs hv
  have hn : P21.num (P4.bl s) = decide ((P20.parse (P4.bl s)).2 = 0) := rfl
  rw [hn]
  generalize P20.parse (P4.bl s) = R at c1 ⊢
  obtain ⟨y, e⟩ := R
  go_enter Tryd.func54, Tryd.ntmps54
  go_wp2_with (go_at_call 20; refine c1.mono ?_; rintro e w' ⟨rfl, hb⟩)
  go_ret
  exact ⟨rfl, hb⟩
set_option maxRecDepth 100000 in
theorem rnumber_any (s : ByteArray) (w : World) (hs : s.size ≤ 1000000) :
    Calls Tryd.prog 68 #[.string s] w fun e w' => e = .returned (.bool (P21.num (P4.bl s))) ∧ Q w w' := by
  have c1 := rnparse_any s w hs
  have hn : P21.num (P4.bl s) = decide ((P20.parse (P4.bl s)).2 = 0) := rfl
  rw [hn]
  generalize P20.parse (P4.bl s) = R at c1 ⊢
  obtain ⟨y, e⟩ := R
  go_enter Tryd.func68, Tryd.ntmps68
  go_wp2_with (go_at_call 96; refine c1.mono ?_; rintro e w' ⟨rfl, hb⟩)
  go_ret
  exact ⟨rfl, hb⟩

/-- the closure: no letter -/
theorem odd_pred (w : World) : PredAt Tryd.prog 81 #[] encR (fun r => !P21.isLr r) w := fun W r _ => by
  unfold FnGives
  show Calls _ _ _ _ fun e w' => e = .returned (.bool (!P21.isLr r)) ∧ ∃ q, w' = W.drewN q
  have hR : P21.isLr r = ((decide (65 ≤ r) && decide (r ≤ 90)) || (decide (97 ≤ r) && decide (r ≤ 122))) := rfl
  rw [hR]
  by_cases h1 : 65 ≤ r <;> by_cases h2 : r ≤ 90 <;> by_cases h3 : 97 ≤ r <;> by_cases h4 : r ≤ 122
  all_goals first | (exfalso; omega) | skip
  all_goals
    have i1 : (r : Int) < 65 ↔ r < 65 := by omega
    have i2 : (90 : Int) < (r : Int) ↔ 90 < r := by omega
    have i3 : (r : Int) < 97 ↔ r < 97 := by omega
    have i4 : (122 : Int) < (r : Int) ↔ 122 < r := by omega
    go_enter Tryd.func81, Tryd.ntmps81
    go_wp2_with fail
    go_ret
    exact ⟨by first | (simp [h1, h2, h3, h4]; done) | (simp [h1, h2, h3, h4]; omega), 0, rfl⟩
set_option maxRecDepth 100000 in
theorem idxf_any (s : ByteArray) (w : World) :
    Calls Tryd.prog 80 #[.string s, .func (.func 81) #[] #[]] w fun e w' => e = .returned (.int .i64 (Lib.idxFunc (fun r => !P21.isLr r) true s)) ∧ Below w.heap.size w w' := by
  have c1 := Any.strings_indexFunc Tryd.lays315 81 #[] (enters_of Tryd.func81 (by kernel_rfl) rfl) (fun r => !P21.isLr r) true s w (odd_pred w)
  have c2 : Calls Tryd.prog 101 #[.string s, .func (.func 81) #[] #[], .bool true] w fun e w' => e = .returned (.int .i64 (Lib.idxFunc (fun r => !P21.isLr r) true s)) ∧ Below w.heap.size w w' := c1.mono fun e w' h => ⟨h.1, by first | exact h.2 | exact h.2.1⟩
  clear c1
  generalize Lib.idxFunc (fun r => !P21.isLr r) true s = R at c2 ⊢
  go_enter Tryd.func80, Tryd.ntmps80
  go_wp2_with (go_at_call 101; refine c2.mono ?_; rintro e w' ⟨rfl, hb⟩)
  go_ret
  exact ⟨rfl, hb⟩
end Go.Proofs.YtbajlkpjemandaaDoor
