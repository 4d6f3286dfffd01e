/- The walks of Line, Month, Week, To and of the short words (chapter 8). -/
import Derived.Test.YtggdfgdnpicepaaDoorWrd8d
namespace Go.Proofs.YtggdfgdnpicepaaDoor
open Go.RowKit Go.Proofs
set_option linter.unusedVariables false
set_option linter.unusedSimpArgs false

/-- the lists lie as they are listed -/
structure Vars8 (w : World) : Prop where
  lines : Rd w 1 (wcells P8.lines)
  months : Rd w 2 (wcells P8.months)
  weeks : Rd w 3 (wcells P8.weeks)
  years : Rd w 4 (wcells P8.years)
theorem Vars8.below {w w' : World} (h : Vars8 w) (hb : Below w.heap.size w w') : Vars8 w' := ⟨h.lines.belowS hb, h.months.belowS hb, h.weeks.belowS hb, h.years.belowS hb⟩
theorem num_pair (first : Int) (s : List UInt8) (L : List (List UInt8)) : P8.num first s L = if (P8.find (s.map P8.low) L).2 = true then (first + (P8.find (s.map P8.low) L).1, 0) else (0, 8) := rfl
set_option maxRecDepth 100000 in
set_option maxHeartbeats 4000000 in
theorem numbered_any (g c : Nat) (L : List (List UInt8)) (first : Int) (s : ByteArray) (w : World) (hL : Rd w g (wcells L)) (hlen : L.length ≤ 1000) (hf : 0 ≤ first ∧ first ≤ 1) (hs : s.size ≤ 1000000) :
    Calls Tryd.prog 61 #[.slice (some ⟨g, 0, none⟩) L.length c, .int .i64 first, .string s] w fun e w' => e = .returned (.tuple #[.int .i64 (P8.num first s.data.toList L).1, .int .i64 (P8.num first s.data.toList L).2]) ∧ Below w.heap.size w w' := by
  have hc := find_any g c L s w hL hlen hs
  obtain ⟨h0, h1⟩ := P8.find_bound (s.data.toList.map P8.low) L
  obtain ⟨R, hR⟩ : ∃ R, P8.num first s.data.toList L = R := ⟨_, rfl⟩
  rw [hR]
  rw [num_pair] at hR
  generalize P8.find (s.data.toList.map P8.low) L = F at hc h0 h1 hR
  obtain ⟨n, b⟩ := F
  simp only at hc h0 h1 hR
  have hw : wrap64 (first + n) = first + n := by unfold wrap64; omega
  have HC := Lib.hid hc
  clear hc hL
  cases b with
  | true =>
    rw [if_pos rfl] at hR
    subst hR
    go_enter Tryd.func61, Tryd.ntmps61
    go_wp2_with (go_at_call 74; refine HC.out.mono ?_; rintro e w1 ⟨rfl, hb1⟩)
    go_ret2
    exact ⟨rfl, hb1⟩
  | false =>
    rw [if_neg (by decide)] at hR
    subst hR
    go_enter Tryd.func61, Tryd.ntmps61
    go_wp2_with (go_at_call 74; refine HC.out.mono ?_; rintro e w1 ⟨rfl, hb1⟩)
    go_ret2
    exact ⟨rfl, hb1⟩
set_option maxRecDepth 100000 in
set_option maxHeartbeats 4000000 in
theorem line_any (s : ByteArray) (w : World) (hs : s.size ≤ 1000000) (hv : Vars8 w) :
    Calls Tryd.prog 26 #[.string s] w fun e w' => e = .returned (.tuple #[.int .i64 (P8.num 1 s.data.toList P8.lines).1, .int .i64 (P8.num 1 s.data.toList P8.lines).2]) ∧ Below w.heap.size w w' := by
  have HC : Hid (Calls Tryd.prog 61 #[.slice (some ⟨1, 0, none⟩) 4 4, .int .i64 1, .string s] w fun e w' => e = .returned (.tuple #[.int .i64 (P8.num 1 s.data.toList P8.lines).1, .int .i64 (P8.num 1 s.data.toList P8.lines).2]) ∧ Below w.heap.size w w') := Lib.hid (numbered_any 1 4 P8.lines 1 s w hv.lines (by decide) (by decide) hs)
  generalize P8.num 1 s.data.toList P8.lines = R at HC ⊢
  clear hv
  go_enter Tryd.func26, Tryd.ntmps26
  go_wp2_with (go_at_call 61; refine HC.out.mono ?_; rintro e w1 ⟨rfl, hb1⟩)
  go_ret2
  exact ⟨rfl, hb1⟩
set_option maxRecDepth 100000 in
set_option maxHeartbeats 4000000 in
theorem month_any (s : ByteArray) (w : World) (hs : s.size ≤ 1000000) (hv : Vars8 w) :
    Calls Tryd.prog 28 #[.string s] w fun e w' => e = .returned (.tuple #[.int .i64 (P8.num 1 s.data.toList P8.months).1, .int .i64 (P8.num 1 s.data.toList P8.months).2]) ∧ Below w.heap.size w w' := by
  have HC : Hid (Calls Tryd.prog 61 #[.slice (some ⟨2, 0, none⟩) 12 12, .int .i64 1, .string s] w fun e w' => e = .returned (.tuple #[.int .i64 (P8.num 1 s.data.toList P8.months).1, .int .i64 (P8.num 1 s.data.toList P8.months).2]) ∧ Below w.heap.size w w') := Lib.hid (numbered_any 2 12 P8.months 1 s w hv.months (by decide) (by decide) hs)
  generalize P8.num 1 s.data.toList P8.months = R at HC ⊢
  clear hv
  go_enter Tryd.func28, Tryd.ntmps28
  go_wp2_with (go_at_call 61; refine HC.out.mono ?_; rintro e w1 ⟨rfl, hb1⟩)
  go_ret2
  exact ⟨rfl, hb1⟩
set_option maxRecDepth 100000 in
set_option maxHeartbeats 4000000 in
theorem week_any (s : ByteArray) (w : World) (hs : s.size ≤ 1000000) (hv : Vars8 w) :
    Calls Tryd.prog 30 #[.string s] w fun e w' => e = .returned (.tuple #[.int .i64 (P8.num 0 s.data.toList P8.weeks).1, .int .i64 (P8.num 0 s.data.toList P8.weeks).2]) ∧ Below w.heap.size w w' := by
  have HC : Hid (Calls Tryd.prog 61 #[.slice (some ⟨3, 0, none⟩) 7 7, .int .i64 0, .string s] w fun e w' => e = .returned (.tuple #[.int .i64 (P8.num 0 s.data.toList P8.weeks).1, .int .i64 (P8.num 0 s.data.toList P8.weeks).2]) ∧ Below w.heap.size w w') := Lib.hid (numbered_any 3 7 P8.weeks 0 s w hv.weeks (by decide) (by decide) hs)
  generalize P8.num 0 s.data.toList P8.weeks = R at HC ⊢
  clear hv
  go_enter Tryd.func30, Tryd.ntmps30
  go_wp2_with (go_at_call 61; refine HC.out.mono ?_; rintro e w1 ⟨rfl, hb1⟩)
  go_ret2
  exact ⟨rfl, hb1⟩
set_option maxRecDepth 100000 in
set_option maxHeartbeats 4000000 in
theorem to_any (s : ByteArray) (w : World) (hs : s.size ≤ 1000000) (hv : Vars8 w) :
    Calls Tryd.prog 32 #[.string s] w fun e w' => e = .returned (.tuple #[.int .i64 (P8.num 1 s.data.toList P8.years).1, .int .i64 (P8.num 1 s.data.toList P8.years).2]) ∧ Below w.heap.size w w' := by
  have HC : Hid (Calls Tryd.prog 61 #[.slice (some ⟨4, 0, none⟩) 2 2, .int .i64 1, .string s] w fun e w' => e = .returned (.tuple #[.int .i64 (P8.num 1 s.data.toList P8.years).1, .int .i64 (P8.num 1 s.data.toList P8.years).2]) ∧ Below w.heap.size w w') := Lib.hid (numbered_any 4 2 P8.years 1 s w hv.years (by decide) (by decide) hs)
  generalize P8.num 1 s.data.toList P8.years = R at HC ⊢
  clear hv
  go_enter Tryd.func32, Tryd.ntmps32
  go_wp2_with (go_at_call 61; refine HC.out.mono ?_; rintro e w1 ⟨rfl, hb1⟩)
  go_ret2
  exact ⟨rfl, hb1⟩
end Go.Proofs.YtggdfgdnpicepaaDoor
