/- The walks of the reference's lists and of the short words (chapter 8). -/
import Derived.Deep.RegionHeld3
import Derived.Test.YtggdfgdnpicepaaDoorWrd8e
namespace Go.Proofs.YtggdfgdnpicepaaDoor
open Go.RowKit Go.Proofs
set_option linter.unusedVariables false
set_option linter.unusedSimpArgs false

set_option maxRecDepth 100000 in
set_option maxHeartbeats 4000000 in
theorem rlines_any (w : World) : Calls Tryd.prog 63 #[] w fun e w' => e = .returned (.slice (some ⟨w.heap.size, 0, none⟩) 4 4) ∧ Rd w' w.heap.size (wcells P8.lines) ∧ Below w.heap.size w w' := by
  have hr := (Cs.new w 9 #[.string ⟨#[114, 117, 108, 101]⟩, .string ⟨#[122, 111, 110, 101]⟩, .string ⟨#[108, 105, 110, 107]⟩, .string ⟨#[115, 104, 105, 102, 116]⟩]).rd
  have hb := (Below.refl w.heap.size w).alloc (Nat.le_refl _) (.cells #[.string ⟨#[114, 117, 108, 101]⟩, .string ⟨#[122, 111, 110, 101]⟩, .string ⟨#[108, 105, 110, 107]⟩, .string ⟨#[115, 104, 105, 102, 116]⟩] 9)
  have HR := Lib.hid hr; have HB := Lib.hid hb
  clear hr hb
  go_enter Tryd.func63, Tryd.ntmps63
  go_wp2_with fail
  go_ret
  exact ⟨rfl, HR.out, HB.out⟩
set_option maxRecDepth 100000 in
set_option maxHeartbeats 4000000 in
theorem rmonths_any (w : World) : Calls Tryd.prog 65 #[] w fun e w' => e = .returned (.slice (some ⟨w.heap.size, 0, none⟩) 12 12) ∧ Rd w' w.heap.size (wcells P8.months) ∧ Below w.heap.size w w' := by
  have hr := (Cs.new w 9 #[.string ⟨#[106, 97, 110, 117, 97, 114, 121]⟩, .string ⟨#[102, 101, 98, 114, 117, 97, 114, 121]⟩, .string ⟨#[109, 97, 114, 99, 104]⟩, .string ⟨#[97, 112, 114, 105, 108]⟩, .string ⟨#[109, 97, 121]⟩, .string ⟨#[106, 117, 110, 101]⟩, .string ⟨#[106, 117, 108, 121]⟩, .string ⟨#[97, 117, 103, 117, 115, 116]⟩, .string ⟨#[115, 101, 112, 116, 101, 109, 98, 101, 114]⟩, .string ⟨#[111, 99, 116, 111, 98, 101, 114]⟩, .string ⟨#[110, 111, 118, 101, 109, 98, 101, 114]⟩, .string ⟨#[100, 101, 99, 101, 109, 98, 101, 114]⟩]).rd
  have hb := (Below.refl w.heap.size w).alloc (Nat.le_refl _) (.cells #[.string ⟨#[106, 97, 110, 117, 97, 114, 121]⟩, .string ⟨#[102, 101, 98, 114, 117, 97, 114, 121]⟩, .string ⟨#[109, 97, 114, 99, 104]⟩, .string ⟨#[97, 112, 114, 105, 108]⟩, .string ⟨#[109, 97, 121]⟩, .string ⟨#[106, 117, 110, 101]⟩, .string ⟨#[106, 117, 108, 121]⟩, .string ⟨#[97, 117, 103, 117, 115, 116]⟩, .string ⟨#[115, 101, 112, 116, 101, 109, 98, 101, 114]⟩, .string ⟨#[111, 99, 116, 111, 98, 101, 114]⟩, .string ⟨#[110, 111, 118, 101, 109, 98, 101, 114]⟩, .string ⟨#[100, 101, 99, 101, 109, 98, 101, 114]⟩] 9)
  have HR := Lib.hid hr; have HB := Lib.hid hb
  clear hr hb
  go_enter Tryd.func65, Tryd.ntmps65
  go_wp2_with fail
  go_ret
  exact ⟨rfl, HR.out, HB.out⟩
set_option maxRecDepth 100000 in
set_option maxHeartbeats 4000000 in
theorem rweeks_any (w : World) : Calls Tryd.prog 66 #[] w fun e w' => e = .returned (.slice (some ⟨w.heap.size, 0, none⟩) 7 7) ∧ Rd w' w.heap.size (wcells P8.weeks) ∧ Below w.heap.size w w' := by
  have hr := (Cs.new w 9 #[.string ⟨#[115, 117, 110, 100, 97, 121]⟩, .string ⟨#[109, 111, 110, 100, 97, 121]⟩, .string ⟨#[116, 117, 101, 115, 100, 97, 121]⟩, .string ⟨#[119, 101, 100, 110, 101, 115, 100, 97, 121]⟩, .string ⟨#[116, 104, 117, 114, 115, 100, 97, 121]⟩, .string ⟨#[102, 114, 105, 100, 97, 121]⟩, .string ⟨#[115, 97, 116, 117, 114, 100, 97, 121]⟩]).rd
  have hb := (Below.refl w.heap.size w).alloc (Nat.le_refl _) (.cells #[.string ⟨#[115, 117, 110, 100, 97, 121]⟩, .string ⟨#[109, 111, 110, 100, 97, 121]⟩, .string ⟨#[116, 117, 101, 115, 100, 97, 121]⟩, .string ⟨#[119, 101, 100, 110, 101, 115, 100, 97, 121]⟩, .string ⟨#[116, 104, 117, 114, 115, 100, 97, 121]⟩, .string ⟨#[102, 114, 105, 100, 97, 121]⟩, .string ⟨#[115, 97, 116, 117, 114, 100, 97, 121]⟩] 9)
  have HR := Lib.hid hr; have HB := Lib.hid hb
  clear hr hb
  go_enter Tryd.func66, Tryd.ntmps66
  go_wp2_with fail
  go_ret
  exact ⟨rfl, HR.out, HB.out⟩
set_option maxRecDepth 100000 in
set_option maxHeartbeats 4000000 in
theorem ryears_any (w : World) : Calls Tryd.prog 67 #[] w fun e w' => e = .returned (.slice (some ⟨w.heap.size, 0, none⟩) 2 2) ∧ Rd w' w.heap.size (wcells P8.years) ∧ Below w.heap.size w w' := by
  have hr := (Cs.new w 9 #[.string ⟨#[111, 110, 108, 121]⟩, .string ⟨#[109, 97, 120, 105, 109, 117, 109]⟩]).rd
  have hb := (Below.refl w.heap.size w).alloc (Nat.le_refl _) (.cells #[.string ⟨#[111, 110, 108, 121]⟩, .string ⟨#[109, 97, 120, 105, 109, 117, 109]⟩] 9)
  have HR := Lib.hid hr; have HB := Lib.hid hb
  clear hr hb
  go_enter Tryd.func67, Tryd.ntmps67
  go_wp2_with fail
  go_ret
  exact ⟨rfl, HR.out, HB.out⟩
set_option maxRecDepth 100000 in
set_option maxHeartbeats 4000000 in
theorem more_ok (n : Int) (w : World) (h : 0 ≤ n ∧ n ≤ 1000) : Calls Tryd.prog 64 #[.int .i64 n, .int .i64 0] w fun e w' => e = .returned (.tuple #[.int .i64 (1 + n), .int .i64 0]) ∧ w' = w := by
  have hw : wrap64 (n + 1) = n + 1 := by unfold wrap64; omega
  rw [Int.add_comm 1 n]
  go_enter Tryd.func64, Tryd.ntmps64
  go_wp2_with fail
  go_ret2
  exact ⟨rfl, rfl⟩
set_option maxRecDepth 100000 in
set_option maxHeartbeats 4000000 in
theorem more_no (n : Int) (w : World) : Calls Tryd.prog 64 #[.int .i64 n, .int .i64 8] w fun e w' => e = .returned (.tuple #[.int .i64 0, .int .i64 8]) ∧ w' = w := by
  go_enter Tryd.func64, Tryd.ntmps64
  go_wp2_with fail
  go_ret2
  exact ⟨rfl, rfl⟩
set_option maxRecDepth 100000 in
set_option maxHeartbeats 4000000 in
theorem rline_any (s : ByteArray) (w : World) (hs : s.size ≤ 1000000) :
    Calls Tryd.prog 27 #[.string s] w fun e w' => e = .returned (.tuple #[.int .i64 (P8.num 1 s.data.toList P8.lines).1, .int .i64 (P8.num 1 s.data.toList P8.lines).2]) ∧ Below w.heap.size w w' := by
  have hc : ∀ g W, Rd W g (wcells P8.lines) → Calls Tryd.prog 62 #[.slice (some ⟨g, 0, none⟩) 4 4, .string s] W fun e w' => e = .returned (.tuple (if (P8.find (s.data.toList.map P8.low) P8.lines).2 = true then #[.int .i64 (P8.find (s.data.toList.map P8.low) P8.lines).1, .int .i64 0] else #[.int .i64 0, .int .i64 8])) ∧ Below W.heap.size W w' :=
    fun g W hL => rfind_any g 4 P8.lines s W hL (by decide) (by decide) (by decide) hs
  obtain ⟨h0, h1⟩ := P8.find_bound (s.data.toList.map P8.low) P8.lines
  have h2 : (P8.find (s.data.toList.map P8.low) P8.lines).1 ≤ 1000 := Int.le_trans h1 (by decide)
  clear h1
  obtain ⟨R, hR⟩ : ∃ R, P8.num 1 s.data.toList P8.lines = R := ⟨_, rfl⟩
  rw [hR]
  rw [num_pair] at hR
  generalize P8.find (s.data.toList.map P8.low) P8.lines = F at hc h0 h2 hR
  obtain ⟨n, b⟩ := F
  simp only at hc h0 h2 hR
  cases b with
  | true =>
    rw [if_pos rfl] at hR
    simp only [if_true] at hc
    subst hR
    have HC := Lib.hid hc
    clear hc
    go_enter Tryd.func27, Tryd.ntmps27
    go_wp2_with first
      | (go_at_call 63; refine (rlines_any _).mono ?_; rintro e w1 ⟨rfl, hr1, hb1⟩)
      | (go_at_call 62; refine (HC.out _ _ hr1).mono ?_; rintro e w2 ⟨rfl, hb2⟩; have hb3 := hb1.trans (hb2.mono hb1.size); clear hb1 hb2)
      | (go_at_call 64; refine (more_ok n _ ⟨h0, h2⟩).mono ?_; rintro e w3 ⟨rfl, rfl⟩)
    go_ret2
    exact ⟨rfl, hb3⟩
  | false =>
    rw [if_neg (by decide)] at hR
    simp only [Bool.false_eq_true, if_false] at hc
    subst hR
    have HC := Lib.hid hc
    clear hc
    go_enter Tryd.func27, Tryd.ntmps27
    go_wp2_with first
      | (go_at_call 63; refine (rlines_any _).mono ?_; rintro e w1 ⟨rfl, hr1, hb1⟩)
      | (go_at_call 62; refine (HC.out _ _ hr1).mono ?_; rintro e w2 ⟨rfl, hb2⟩; have hb3 := hb1.trans (hb2.mono hb1.size); clear hb1 hb2)
      | (go_at_call 64; refine (more_no 0 _).mono ?_; rintro e w3 ⟨rfl, rfl⟩)
    go_ret2
    exact ⟨rfl, hb3⟩
set_option maxRecDepth 100000 in
set_option maxHeartbeats 4000000 in
theorem rmonth_any (s : ByteArray) (w : World) (hs : s.size ≤ 1000000) :
    Calls Tryd.prog 29 #[.string s] w fun e w' => e = .returned (.tuple #[.int .i64 (P8.num 1 s.data.toList P8.months).1, .int .i64 (P8.num 1 s.data.toList P8.months).2]) ∧ Below w.heap.size w w' := by
  have hc : ∀ g W, Rd W g (wcells P8.months) → Calls Tryd.prog 62 #[.slice (some ⟨g, 0, none⟩) 12 12, .string s] W fun e w' => e = .returned (.tuple (if (P8.find (s.data.toList.map P8.low) P8.months).2 = true then #[.int .i64 (P8.find (s.data.toList.map P8.low) P8.months).1, .int .i64 0] else #[.int .i64 0, .int .i64 8])) ∧ Below W.heap.size W w' :=
    fun g W hL => rfind_any g 12 P8.months s W hL (by decide) (by decide) (by decide) hs
  obtain ⟨h0, h1⟩ := P8.find_bound (s.data.toList.map P8.low) P8.months
  have h2 : (P8.find (s.data.toList.map P8.low) P8.months).1 ≤ 1000 := Int.le_trans h1 (by decide)
  clear h1
  obtain ⟨R, hR⟩ : ∃ R, P8.num 1 s.data.toList P8.months = R := ⟨_, rfl⟩
  rw [hR]
  rw [num_pair] at hR
  generalize P8.find (s.data.toList.map P8.low) P8.months = F at hc h0 h2 hR
  obtain ⟨n, b⟩ := F
  simp only at hc h0 h2 hR
  cases b with
  | true =>
    rw [if_pos rfl] at hR
    simp only [if_true] at hc
    subst hR
    have HC := Lib.hid hc
    clear hc
    go_enter Tryd.func29, Tryd.ntmps29
    go_wp2_with first
      | (go_at_call 65; refine (rmonths_any _).mono ?_; rintro e w1 ⟨rfl, hr1, hb1⟩)
      | (go_at_call 62; refine (HC.out _ _ hr1).mono ?_; rintro e w2 ⟨rfl, hb2⟩; have hb3 := hb1.trans (hb2.mono hb1.size); clear hb1 hb2)
      | (go_at_call 64; refine (more_ok n _ ⟨h0, h2⟩).mono ?_; rintro e w3 ⟨rfl, rfl⟩)
    go_ret2
    exact ⟨rfl, hb3⟩
  | false =>
    rw [if_neg (by decide)] at hR
    simp only [Bool.false_eq_true, if_false] at hc
    subst hR
    have HC := Lib.hid hc
    clear hc
    go_enter Tryd.func29, Tryd.ntmps29
    go_wp2_with first
      | (go_at_call 65; refine (rmonths_any _).mono ?_; rintro e w1 ⟨rfl, hr1, hb1⟩)
      | (go_at_call 62; refine (HC.out _ _ hr1).mono ?_; rintro e w2 ⟨rfl, hb2⟩; have hb3 := hb1.trans (hb2.mono hb1.size); clear hb1 hb2)
      | (go_at_call 64; refine (more_no 0 _).mono ?_; rintro e w3 ⟨rfl, rfl⟩)
    go_ret2
    exact ⟨rfl, hb3⟩
set_option maxRecDepth 100000 in
set_option maxHeartbeats 4000000 in
theorem rweek_any (s : ByteArray) (w : World) (hs : s.size ≤ 1000000) :
    Calls Tryd.prog 31 #[.string s] w fun e w' => e = .returned (.tuple #[.int .i64 (P8.num 0 s.data.toList P8.weeks).1, .int .i64 (P8.num 0 s.data.toList P8.weeks).2]) ∧ Below w.heap.size w w' := by
  have hc : ∀ g W, Rd W g (wcells P8.weeks) → Calls Tryd.prog 62 #[.slice (some ⟨g, 0, none⟩) 7 7, .string s] W fun e w' => e = .returned (.tuple (if (P8.find (s.data.toList.map P8.low) P8.weeks).2 = true then #[.int .i64 (P8.find (s.data.toList.map P8.low) P8.weeks).1, .int .i64 0] else #[.int .i64 0, .int .i64 8])) ∧ Below W.heap.size W w' :=
    fun g W hL => rfind_any g 7 P8.weeks s W hL (by decide) (by decide) (by decide) hs
  obtain ⟨h0, h1⟩ := P8.find_bound (s.data.toList.map P8.low) P8.weeks
  have h2 : (P8.find (s.data.toList.map P8.low) P8.weeks).1 ≤ 1000 := Int.le_trans h1 (by decide)
  clear h1
  obtain ⟨R, hR⟩ : ∃ R, P8.num 0 s.data.toList P8.weeks = R := ⟨_, rfl⟩
  rw [hR]
  rw [num_pair] at hR
  generalize P8.find (s.data.toList.map P8.low) P8.weeks = F at hc h0 h2 hR
  obtain ⟨n, b⟩ := F
  simp only at hc h0 h2 hR
  cases b with
  | true =>
    rw [if_pos rfl] at hR
    simp only [if_true] at hc
    subst hR
    have HC := Lib.hid hc
    clear hc
    rw [Int.zero_add]
    go_enter Tryd.func31, Tryd.ntmps31
    go_wp2_with first
      | (go_at_call 66; refine (rweeks_any _).mono ?_; rintro e w1 ⟨rfl, hr1, hb1⟩)
      | (go_at_call 62; refine (HC.out _ _ hr1).mono ?_; rintro e w2 ⟨rfl, hb2⟩; have hb3 := hb1.trans (hb2.mono hb1.size); clear hb1 hb2)
    go_ret2
    exact ⟨rfl, hb3⟩
  | false =>
    rw [if_neg (by decide)] at hR
    simp only [Bool.false_eq_true, if_false] at hc
    subst hR
    have HC := Lib.hid hc
    clear hc
    go_enter Tryd.func31, Tryd.ntmps31
    go_wp2_with first
      | (go_at_call 66; refine (rweeks_any _).mono ?_; rintro e w1 ⟨rfl, hr1, hb1⟩)
      | (go_at_call 62; refine (HC.out _ _ hr1).mono ?_; rintro e w2 ⟨rfl, hb2⟩; have hb3 := hb1.trans (hb2.mono hb1.size); clear hb1 hb2)
    go_ret2
    exact ⟨rfl, hb3⟩
set_option maxRecDepth 100000 in
set_option maxHeartbeats 4000000 in
theorem rto_any (s : ByteArray) (w : World) (hs : s.size ≤ 1000000) :
    Calls Tryd.prog 33 #[.string s] w fun e w' => e = .returned (.tuple #[.int .i64 (P8.num 1 s.data.toList P8.years).1, .int .i64 (P8.num 1 s.data.toList P8.years).2]) ∧ Below w.heap.size w w' := by
  have hc : ∀ g W, Rd W g (wcells P8.years) → Calls Tryd.prog 62 #[.slice (some ⟨g, 0, none⟩) 2 2, .string s] W fun e w' => e = .returned (.tuple (if (P8.find (s.data.toList.map P8.low) P8.years).2 = true then #[.int .i64 (P8.find (s.data.toList.map P8.low) P8.years).1, .int .i64 0] else #[.int .i64 0, .int .i64 8])) ∧ Below W.heap.size W w' :=
    fun g W hL => rfind_any g 2 P8.years s W hL (by decide) (by decide) (by decide) hs
  obtain ⟨h0, h1⟩ := P8.find_bound (s.data.toList.map P8.low) P8.years
  have h2 : (P8.find (s.data.toList.map P8.low) P8.years).1 ≤ 1000 := Int.le_trans h1 (by decide)
  clear h1
  obtain ⟨R, hR⟩ : ∃ R, P8.num 1 s.data.toList P8.years = R := ⟨_, rfl⟩
  rw [hR]
  rw [num_pair] at hR
  generalize P8.find (s.data.toList.map P8.low) P8.years = F at hc h0 h2 hR
  obtain ⟨n, b⟩ := F
  simp only at hc h0 h2 hR
  cases b with
  | true =>
    rw [if_pos rfl] at hR
    simp only [if_true] at hc
    subst hR
    have HC := Lib.hid hc
    clear hc
    go_enter Tryd.func33, Tryd.ntmps33
    go_wp2_with first
      | (go_at_call 67; refine (ryears_any _).mono ?_; rintro e w1 ⟨rfl, hr1, hb1⟩)
      | (go_at_call 62; refine (HC.out _ _ hr1).mono ?_; rintro e w2 ⟨rfl, hb2⟩; have hb3 := hb1.trans (hb2.mono hb1.size); clear hb1 hb2)
      | (go_at_call 64; refine (more_ok n _ ⟨h0, h2⟩).mono ?_; rintro e w3 ⟨rfl, rfl⟩)
    go_ret2
    exact ⟨rfl, hb3⟩
  | false =>
    rw [if_neg (by decide)] at hR
    simp only [Bool.false_eq_true, if_false] at hc
    subst hR
    have HC := Lib.hid hc
    clear hc
    go_enter Tryd.func33, Tryd.ntmps33
    go_wp2_with first
      | (go_at_call 67; refine (ryears_any _).mono ?_; rintro e w1 ⟨rfl, hr1, hb1⟩)
      | (go_at_call 62; refine (HC.out _ _ hr1).mono ?_; rintro e w2 ⟨rfl, hb2⟩; have hb3 := hb1.trans (hb2.mono hb1.size); clear hb1 hb2)
      | (go_at_call 64; refine (more_no 0 _).mono ?_; rintro e w3 ⟨rfl, rfl⟩)
    go_ret2
    exact ⟨rfl, hb3⟩
end Go.Proofs.YtggdfgdnpicepaaDoor
