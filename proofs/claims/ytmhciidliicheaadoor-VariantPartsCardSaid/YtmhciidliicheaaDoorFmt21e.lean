/- The walks of the reference's Kind, of both Parts, of right and Add (chapter 21). -/
import Derived.Test.YtmhciidliicheaaDoorFmt21d
namespace Go.Proofs.YtmhciidliicheaaDoor
open Go.RowKit Go.Lib
set_option linter.unusedVariables false

theorem slashR_is (l : List UInt8) : (slashR l).2.2 = (P21.slash l).2.2 := by
  unfold slashR
  cases h : (P21.slash l).2.2 with
  | true => rw [if_pos rfl, h]
  | false => rw [if_neg (by simp)]
theorem slashR_hit {l : List UInt8} (h : (P21.slash l).2.2 = true) : slashR l = P21.slash l := by unfold slashR; rw [if_pos h]
theorem slashR_len (s : ByteArray) : (str (slashR (P4.bl s)).1).size + (str (slashR (P4.bl s)).2.1).size ≤ s.size := by
  cases h : (P21.slash (P4.bl s)).2.2 with
  | true => rw [slashR_hit h]; exact lss_cut s
  | false => unfold slashR; rw [h, if_neg (by simp)]; simp [str_size]
theorem kind_testsR (l : List UInt8) : P21.kind l = if P21.abbr l = true then 1 else if ((slashR l).2.2 && P21.abbr (slashR l).1 && P21.abbr (slashR l).2.1) = true then 2 else if (letterR l).2.2 = true then 3 else if l = [37, 122] then 4 else if (P21.num l || ((slashR l).2.2 && P21.num (slashR l).1 && P21.num (slashR l).2.1)) = true then 5 else 0 := by
  rw [kind_tests, letterR_is, slashR_is]
  cases h : (P21.slash l).2.2 with
  | true => rw [slashR_hit h]
  | false => rfl
set_option maxRecDepth 100000 in
set_option maxHeartbeats 8000000 in
theorem parts_any (s : ByteArray) (w : World) (hs : s.size ≤ 1000000) (hv : Vars21 w) :
    Calls Tryd.prog 25 #[.string s] w fun e w' => e = .returned (.tuple #[.string (str (P21.parts (P4.bl s)).1), .string (str (P21.parts (P4.bl s)).2.1), .bool (P21.parts (P4.bl s)).2.2]) ∧ Below w.heap.size w w' := by
  have cC : Hid (∀ W, Vars21 W → Calls Tryd.prog 53 #[.string s, .string (str [47])] W fun e w' => e = .returned (.tuple #[.string (str (P21.slash (P4.bl s)).1), .string (str (P21.slash (P4.bl s)).2.1), .bool (P21.slash (P4.bl s)).2.2]) ∧ Q W w') := fun W h => cut21 s [47] W hs h
  have cK : Hid (∀ W, Vars21 W → Calls Tryd.prog 18 #[.string s] W fun e w' => e = .returned (.int .i64 (P21.kind (P4.bl s))) ∧ Below W.heap.size W w') := fun W h => kind_any s W hs h
  have hR : P21.parts (P4.bl s) = if ((P21.slash (P4.bl s)).2.2 && (decide (P21.kind (P4.bl s) = 2) || decide (P21.kind (P4.bl s) = 5))) = true then ((P21.slash (P4.bl s)).1, (P21.slash (P4.bl s)).2.1, true) else ([], [], false) := rfl
  have hK := P21.kind_cases (P4.bl s)
  generalize P21.parts (P4.bl s) = R at hR ⊢
  generalize P21.kind (P4.bl s) = K at hR cK hK
  generalize P21.slash (P4.bl s) = U at hR cC
  obtain ⟨ua, ub, T⟩ := U
  simp only at hR cC
  cases T with
  | true =>
    rcases hK with rfl | rfl | rfl | rfl | rfl | rfl
    · have HR := Lib.hid (hR.trans (show _ = (([], [], false) : List UInt8 × List UInt8 × Bool) by simp))
      clear hR hs
      go_enter Tryd.func25, Tryd.ntmps25
      go_wp2_with fail
      refine (cC.out _ hv).mono ?_
      rintro e w1 ⟨rfl, hc10⟩
      have hb1 := hc10.below w.heap.size
      have hv2 := hv.below hb1
      go_wp2_with fail
      refine (cK.out _ hv2).mono ?_
      rintro e w2 ⟨rfl, hc2⟩
      have hb2 := hb1.trans (hc2.mono hb1.size)
      go_wp2_with fail
      go_ret3
      exact ⟨by rw [HR.out]; rfl, hb2⟩
    · have HR := Lib.hid (hR.trans (show _ = (([], [], false) : List UInt8 × List UInt8 × Bool) by simp))
      clear hR hs
      go_enter Tryd.func25, Tryd.ntmps25
      go_wp2_with fail
      refine (cC.out _ hv).mono ?_
      rintro e w1 ⟨rfl, hc10⟩
      have hb1 := hc10.below w.heap.size
      have hv2 := hv.below hb1
      go_wp2_with fail
      refine (cK.out _ hv2).mono ?_
      rintro e w2 ⟨rfl, hc2⟩
      have hb2 := hb1.trans (hc2.mono hb1.size)
      go_wp2_with fail
      go_ret3
      exact ⟨by rw [HR.out]; rfl, hb2⟩
    · have HR := Lib.hid (hR.trans (show _ = ((ua, ub, true) : List UInt8 × List UInt8 × Bool) by simp))
      clear hR hs
      go_enter Tryd.func25, Tryd.ntmps25
      go_wp2_with fail
      refine (cC.out _ hv).mono ?_
      rintro e w1 ⟨rfl, hc10⟩
      have hb1 := hc10.below w.heap.size
      have hv2 := hv.below hb1
      go_wp2_with fail
      refine (cK.out _ hv2).mono ?_
      rintro e w2 ⟨rfl, hc2⟩
      have hb2 := hb1.trans (hc2.mono hb1.size)
      go_wp2_with fail
      go_ret3
      exact ⟨by rw [HR.out]; rfl, hb2⟩
    · have HR := Lib.hid (hR.trans (show _ = (([], [], false) : List UInt8 × List UInt8 × Bool) by simp))
      clear hR hs
      go_enter Tryd.func25, Tryd.ntmps25
      go_wp2_with fail
      refine (cC.out _ hv).mono ?_
      rintro e w1 ⟨rfl, hc10⟩
      have hb1 := hc10.below w.heap.size
      have hv2 := hv.below hb1
      go_wp2_with fail
      refine (cK.out _ hv2).mono ?_
      rintro e w2 ⟨rfl, hc2⟩
      have hb2 := hb1.trans (hc2.mono hb1.size)
      go_wp2_with fail
      go_ret3
      exact ⟨by rw [HR.out]; rfl, hb2⟩
    · have HR := Lib.hid (hR.trans (show _ = (([], [], false) : List UInt8 × List UInt8 × Bool) by simp))
      clear hR hs
      go_enter Tryd.func25, Tryd.ntmps25
      go_wp2_with fail
      refine (cC.out _ hv).mono ?_
      rintro e w1 ⟨rfl, hc10⟩
      have hb1 := hc10.below w.heap.size
      have hv2 := hv.below hb1
      go_wp2_with fail
      refine (cK.out _ hv2).mono ?_
      rintro e w2 ⟨rfl, hc2⟩
      have hb2 := hb1.trans (hc2.mono hb1.size)
      go_wp2_with fail
      go_ret3
      exact ⟨by rw [HR.out]; rfl, hb2⟩
    · have HR := Lib.hid (hR.trans (show _ = ((ua, ub, true) : List UInt8 × List UInt8 × Bool) by simp))
      clear hR hs
      go_enter Tryd.func25, Tryd.ntmps25
      go_wp2_with fail
      refine (cC.out _ hv).mono ?_
      rintro e w1 ⟨rfl, hc10⟩
      have hb1 := hc10.below w.heap.size
      have hv2 := hv.below hb1
      go_wp2_with fail
      refine (cK.out _ hv2).mono ?_
      rintro e w2 ⟨rfl, hc2⟩
      have hb2 := hb1.trans (hc2.mono hb1.size)
      go_wp2_with fail
      go_ret3
      exact ⟨by rw [HR.out]; rfl, hb2⟩
  | false =>
    rcases hK with rfl | rfl | rfl | rfl | rfl | rfl
    · have HR := Lib.hid (hR.trans (show _ = (([], [], false) : List UInt8 × List UInt8 × Bool) by simp))
      clear hR hs
      go_enter Tryd.func25, Tryd.ntmps25
      go_wp2_with fail
      refine (cC.out _ hv).mono ?_
      rintro e w1 ⟨rfl, hc10⟩
      have hb1 := hc10.below w.heap.size
      have hv2 := hv.below hb1
      go_wp2_with fail
      refine (cK.out _ hv2).mono ?_
      rintro e w2 ⟨rfl, hc2⟩
      have hb2 := hb1.trans (hc2.mono hb1.size)
      go_wp2_with fail
      go_ret3
      exact ⟨by rw [HR.out]; rfl, hb2⟩
    · have HR := Lib.hid (hR.trans (show _ = (([], [], false) : List UInt8 × List UInt8 × Bool) by simp))
      clear hR hs
      go_enter Tryd.func25, Tryd.ntmps25
      go_wp2_with fail
      refine (cC.out _ hv).mono ?_
      rintro e w1 ⟨rfl, hc10⟩
      have hb1 := hc10.below w.heap.size
      have hv2 := hv.below hb1
      go_wp2_with fail
      refine (cK.out _ hv2).mono ?_
      rintro e w2 ⟨rfl, hc2⟩
      have hb2 := hb1.trans (hc2.mono hb1.size)
      go_wp2_with fail
      go_ret3
      exact ⟨by rw [HR.out]; rfl, hb2⟩
    · have HR := Lib.hid (hR.trans (show _ = (([], [], false) : List UInt8 × List UInt8 × Bool) by simp))
      clear hR hs
      go_enter Tryd.func25, Tryd.ntmps25
      go_wp2_with fail
      refine (cC.out _ hv).mono ?_
      rintro e w1 ⟨rfl, hc10⟩
      have hb1 := hc10.below w.heap.size
      have hv2 := hv.below hb1
      go_wp2_with fail
      refine (cK.out _ hv2).mono ?_
      rintro e w2 ⟨rfl, hc2⟩
      have hb2 := hb1.trans (hc2.mono hb1.size)
      go_wp2_with fail
      go_ret3
      exact ⟨by rw [HR.out]; rfl, hb2⟩
    · have HR := Lib.hid (hR.trans (show _ = (([], [], false) : List UInt8 × List UInt8 × Bool) by simp))
      clear hR hs
      go_enter Tryd.func25, Tryd.ntmps25
      go_wp2_with fail
      refine (cC.out _ hv).mono ?_
      rintro e w1 ⟨rfl, hc10⟩
      have hb1 := hc10.below w.heap.size
      have hv2 := hv.below hb1
      go_wp2_with fail
      refine (cK.out _ hv2).mono ?_
      rintro e w2 ⟨rfl, hc2⟩
      have hb2 := hb1.trans (hc2.mono hb1.size)
      go_wp2_with fail
      go_ret3
      exact ⟨by rw [HR.out]; rfl, hb2⟩
    · have HR := Lib.hid (hR.trans (show _ = (([], [], false) : List UInt8 × List UInt8 × Bool) by simp))
      clear hR hs
      go_enter Tryd.func25, Tryd.ntmps25
      go_wp2_with fail
      refine (cC.out _ hv).mono ?_
      rintro e w1 ⟨rfl, hc10⟩
      have hb1 := hc10.below w.heap.size
      have hv2 := hv.below hb1
      go_wp2_with fail
      refine (cK.out _ hv2).mono ?_
      rintro e w2 ⟨rfl, hc2⟩
      have hb2 := hb1.trans (hc2.mono hb1.size)
      go_wp2_with fail
      go_ret3
      exact ⟨by rw [HR.out]; rfl, hb2⟩
    · have HR := Lib.hid (hR.trans (show _ = (([], [], false) : List UInt8 × List UInt8 × Bool) by simp))
      clear hR hs
      go_enter Tryd.func25, Tryd.ntmps25
      go_wp2_with fail
      refine (cC.out _ hv).mono ?_
      rintro e w1 ⟨rfl, hc10⟩
      have hb1 := hc10.below w.heap.size
      have hv2 := hv.below hb1
      go_wp2_with fail
      refine (cK.out _ hv2).mono ?_
      rintro e w2 ⟨rfl, hc2⟩
      have hb2 := hb1.trans (hc2.mono hb1.size)
      go_wp2_with fail
      go_ret3
      exact ⟨by rw [HR.out]; rfl, hb2⟩
set_option maxRecDepth 100000 in
theorem right_any (t : ByteArray) (b : Bool) (w : World) :
    Calls Tryd.prog 51 #[.string t, .bool b] w fun e w' => e = .returned (.tuple #[.string (if b = true then t else str []), .int .i64 (if b = true then 0 else 15)]) ∧ w' = w := by
  cases b with
  | true =>
    rw [if_pos rfl, if_pos rfl]
    go_enter Tryd.func51, Tryd.ntmps51
    go_wp2_with fail
    go_ret2
    exact ⟨rfl, rfl⟩
  | false =>
    rw [if_neg (by simp), if_neg (by simp)]
    go_enter Tryd.func51, Tryd.ntmps51
    go_wp2_with fail
    go_ret2
    exact ⟨rfl, rfl⟩
/-- the sum of two numbers, if it is one -/
def inZ (x : Int) : Bool := decide (-9223372036854775808 ≤ x) && decide (x ≤ 9223372036854775807)
set_option maxRecDepth 100000 in
theorem add_any (a b : Int) (w : World) (ha : -9223372036854775808 ≤ a ∧ a ≤ 9223372036854775807) (hb : -9223372036854775808 ≤ b ∧ b ≤ 9223372036854775807) :
    Calls Tryd.prog 52 #[.int .i64 a, .int .i64 b] w fun e w' => e = .returned (.tuple #[.int .i64 (if inZ (a + b) = true then a + b else 0), .bool (inZ (a + b))]) ∧ w' = w := by
  obtain ⟨a0, a1⟩ := ha
  obtain ⟨b0, b1⟩ := hb
  obtain ⟨c, hc⟩ : ∃ c, wrap64 (a + b) = c := ⟨_, rfl⟩
  by_cases h : -9223372036854775808 ≤ a + b ∧ a + b ≤ 9223372036854775807
  · have hi : inZ (a + b) = true := by unfold inZ; rw [decide_eq_true h.1, decide_eq_true h.2]; rfl
    have hs : a + b = c := by rw [← hc]; unfold wrap64; omega
    rw [hi, if_pos rfl, hs]
    clear hi
    obtain ⟨h0, h1⟩ := h
    have hcs : (0 < b ∧ a < c) ∨ (¬ 0 < b ∧ ¬ a < c) := by omega
    clear hs h0 h1
    have HC := hc
    clear hc
    rcases hcs with ⟨p, q⟩ | ⟨p, q⟩
    · go_enter Tryd.func52, Tryd.ntmps52
      go_wp2_with fail
      go_ret2
      exact ⟨by rw [← HC]; rfl, rfl⟩
    · go_enter Tryd.func52, Tryd.ntmps52
      go_wp2_with fail
      go_ret2
      exact ⟨by rw [← HC]; rfl, rfl⟩
  · have hi : inZ (a + b) = false := by
      unfold inZ
      by_cases q : -9223372036854775808 ≤ a + b
      · rw [decide_eq_false (p := a + b ≤ 9223372036854775807) (fun r => h ⟨q, r⟩), Bool.and_false]
      · rw [decide_eq_false q]; rfl
    have hs : (c = a + b - 18446744073709551616 ∨ c = a + b + 18446744073709551616) ∧ -9223372036854775808 ≤ c ∧ c ≤ 9223372036854775807 := by rw [← hc]; unfold wrap64; omega
    rw [hi, if_neg (by simp)]
    clear hi
    have hcs : (0 < b ∧ ¬ a < c) ∨ (¬ 0 < b ∧ b < 0 ∧ a < c) := by omega
    clear hs h
    have HC := hc
    clear hc
    rcases hcs with ⟨p, q⟩ | ⟨p, p2, q⟩
    · have hb0 : (b != 0) = true := by rw [bne_iff_ne]; omega
      go_enter Tryd.func52, Tryd.ntmps52
      go_wp2_with fail
      go_ret2
      exact ⟨rfl, rfl⟩
    · have hb0 : (b != 0) = true := by rw [bne_iff_ne]; omega
      go_enter Tryd.func52, Tryd.ntmps52
      go_wp2_with fail
      go_ret2
      exact ⟨rfl, rfl⟩
end Go.Proofs.YtmhciidliicheaaDoor
