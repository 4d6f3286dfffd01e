/- The walks of the short words (chapter 8). -/
import Derived.Test.YtggdfgdnpicepaaDoorWrd8f
namespace Go.Proofs.YtggdfgdnpicepaaDoor
open Go.RowKit Go.Proofs
set_option linter.unusedVariables false
set_option linter.unusedSimpArgs false

theorem str_cut (l : List UInt8) (i j : Nat) : (str l).extract i j = str ((l.drop i).take (j - i)) := by
  apply ByteArray.ext
  simp [str, ByteArray.data_extract, List.extract_eq_take_drop]
set_option maxRecDepth 100000 in
set_option maxHeartbeats 4000000 in
theorem short_any (g c : Nat) (L : List (List UInt8)) (k : Nat) (w : World) (hL : Rd w g (wcells L)) (hlen : L.length ≤ 1000) (hk : k < L.length) (h3 : 3 ≤ (P8.word L k).length) (h9 : (P8.word L k).length ≤ 9) (hsm : ∀ c ∈ P8.word L k, 97 ≤ c ∧ c ≤ 122) :
    Calls Tryd.prog 68 #[.slice (some ⟨g, 0, none⟩) L.length c, .int .i64 k] w fun e w' => e = .returned (.string (str (P8.short (P8.word L k)))) ∧ Below w.heap.size w w' := by
  have c0 := hL.cell k _ (wcells_get L k hk)
  have hg := hL.lt
  obtain ⟨W0, hW0⟩ : ∃ W0, P8.word L k = W0 := ⟨_, rfl⟩
  rw [hW0] at c0 h3 h9 hsm ⊢
  have hki : (k : Int) < (L.length : Int) := by omega
  have hk0 : (0 : Int) ≤ (k : Int) := by omega
  have hsz := str_size W0
  have b1 : (1 : Int) ≤ (W0.length : Int) := by omega
  have b3 : (3 : Int) ≤ (W0.length : Int) := by omega
  have e1 : (str W0).extract 0 1 = str (W0.take 1) := str_cut W0 0 1
  have e2 : (str W0).extract 1 3 = str ((W0.drop 1).take 2) := str_cut W0 1 3
  have cU : Hid (∀ W, Calls Tryd.prog 76 #[.string ((str W0).extract 0 1)] W fun e w' => e = .returned (.string (str ((W0.take 1).map fun c => c - 32))) ∧ Below W.heap.size W w') := Lib.hid (fun W => by
    rw [e1]
    have q := Tryd.strings_ToUpper_ascii (str (W0.take 1)) W (by rw [str_size]; simp; omega) (fun j b hb => by
      have := hsm b (List.mem_of_mem_take (List.mem_of_getElem? hb))
      have := this.2
      have := UInt8.le_iff_toNat_le.1 this
      simp at this; omega)
    have e : (⟨(Lib.toUpperA (str (W0.take 1)).data.toList).toArray⟩ : ByteArray) = str ((W0.take 1).map fun c => c - 32) := by
      unfold Lib.toUpperA str
      simp only
      congr 2
      apply List.map_congr_left
      intro c hc
      have := hsm c (List.mem_of_mem_take (by simpa using hc))
      unfold Lib.upperB Lib.isLowerB
      simp [this.1, this.2]
    rw [e] at q
    exact q)
  have hU : P8.short W0 = ((W0.take 1).map fun c => c - 32) ++ (W0.drop 1).take 2 := rfl
  have hUl : ((W0.take 1).map fun c => c - 32).length ≤ 1 := by simp; omega
  generalize ((W0.take 1).map fun c => c - 32) = U at cU hU hUl
  have q1 : ∀ W, (Op.stringOp .add (str U) ((str W0).extract 1 3)).run Tryd.prog W = .ok (.string (str (P8.short W0))) W := fun W => by
    rw [e2]
    rw [run_string_add_sum (w := W) _ _ (by rw [str_size, str_size]; simp; omega), str_append, hU]
  have HL := Lib.hid hL
  clear hL hW0 hsm e1 e2 hU hUl
  go_enter Tryd.func68, Tryd.ntmps68
  go_wp2_with fail
  go_region_held3 (fun W => W.cell? ⟨g, k, none⟩ = some (.string (str W0)) ∧ Below w.heap.size w W) (first | exact ⟨c0, (Below.refl _ _)⟩ | exact ⟨(Below.cell ((Below.refl w.heap.size w).drew) (p := ⟨g, k, none⟩) hg).trans c0, (Below.refl _ _).drew⟩ | exact ⟨(hc2.cell (p := ⟨g, k, none⟩) hg).trans c0, hc2⟩ | assumption) ((go_at_call 76; refine (cU.out _).mono ?_; rintro en w1 ⟨rfl, hc⟩; have hc2 : Below w.heap.size w w1 := (Below.refl w.heap.size w).drew.trans hc; clear hc))
  go_wp2_with fail
  go_ret
  exact ⟨rfl, by assumption⟩
/-- the short word of an index, or none -/
def textAt (L : List (List UInt8)) (n : Int) : List UInt8 := if 0 ≤ n ∧ n < L.length then P8.short (P8.word L n.toNat) else []
set_option maxRecDepth 100000 in
set_option maxHeartbeats 4000000 in
theorem shorts_any (g c : Nat) (L : List (List UInt8)) (n : Int) (w : World) (hL : Rd w g (wcells L)) (hlen : L.length ≤ 1000) (hg : ∀ k, k < L.length → (3 ≤ (P8.word L k).length ∧ (P8.word L k).length ≤ 9) ∧ ∀ c ∈ P8.word L k, 97 ≤ c ∧ c ≤ 122) :
    Calls Tryd.prog 68 #[.slice (some ⟨g, 0, none⟩) L.length c, .int .i64 n] w fun e w' => e = .returned (.string (str (textAt L n))) ∧ Below w.heap.size w w' := by
  by_cases h : 0 ≤ n ∧ n < L.length
  · obtain ⟨k, rfl⟩ := Int.eq_ofNat_of_zero_le h.1
    have hk : k < L.length := by omega
    have q := short_any g c L k w hL hlen hk (hg k hk).1.1 (hg k hk).1.2 (hg k hk).2
    unfold textAt
    rw [if_pos h]
    exact q
  · have e : str (textAt L n) = ⟨#[]⟩ := by unfold textAt; rw [if_neg h]; rfl
    rw [e]
    clear hL hg
    by_cases h0 : n < 0
    · clear h e
      go_enter Tryd.func68, Tryd.ntmps68
      go_wp2_with fail
      go_ret
      exact ⟨rfl, Below.refl _ _⟩
    · have h1 : (L.length : Int) ≤ n := by omega
      clear h e
      go_enter Tryd.func68, Tryd.ntmps68
      go_wp2_with fail
      go_ret
      exact ⟨rfl, Below.refl _ _⟩
theorem good_months : ∀ k, k < P8.months.length → (3 ≤ (P8.word P8.months k).length ∧ (P8.word P8.months k).length ≤ 9) ∧ ∀ c ∈ P8.word P8.months k, 97 ≤ c ∧ c ≤ 122 := by decide +kernel
theorem good_weeks : ∀ k, k < P8.weeks.length → (3 ≤ (P8.word P8.weeks k).length ∧ (P8.word P8.weeks k).length ≤ 9) ∧ ∀ c ∈ P8.word P8.weeks k, 97 ≤ c ∧ c ≤ 122 := by decide +kernel
/-- the short word of a month -/
def monthText (n : Int) : List UInt8 := textAt P8.months (n - 1)
def weekText (n : Int) : List UInt8 := textAt P8.weeks n
theorem monthText_low {n : Int} (h : n < 1) : str (monthText n) = ⟨#[]⟩ := by unfold monthText textAt; rw [if_neg (by omega)]; rfl
set_option maxRecDepth 100000 in
set_option maxHeartbeats 4000000 in
theorem month_text (n : Int) (w : World) (hn : n ≤ 9223372036854775807) (hv : Vars8 w) : Calls Tryd.prog 34 #[.int .i64 n] w fun e w' => e = .returned (.string (str (monthText n))) ∧ Below w.heap.size w w' := by
  by_cases h : n < 1
  · rw [monthText_low h]
    clear hv hn
    go_enter Tryd.func34, Tryd.ntmps34
    go_wp2_with fail
    go_ret
    exact ⟨rfl, Below.refl _ _⟩
  · have HC : Hid (Calls Tryd.prog 68 #[.slice (some ⟨2, 0, none⟩) 12 12, .int .i64 (n - 1)] w fun e w' => e = .returned (.string (str (monthText n))) ∧ Below w.heap.size w w') := Lib.hid (shorts_any _ 12 P8.months (n - 1) w hv.months (by decide) good_months)
    generalize monthText n = R at HC ⊢
    have hw : wrap64 (n - 1) = n - 1 := by unfold wrap64; omega
    clear hv hn
    go_enter Tryd.func34, Tryd.ntmps34
    go_wp2_with (go_at_call 68; refine HC.out.mono ?_; rintro e w1 ⟨rfl, hb1⟩)
    go_ret
    exact ⟨rfl, hb1⟩
set_option maxRecDepth 100000 in
set_option maxHeartbeats 4000000 in
theorem week_text (n : Int) (w : World) (hv : Vars8 w) : Calls Tryd.prog 36 #[.int .i64 n] w fun e w' => e = .returned (.string (str (weekText n))) ∧ Below w.heap.size w w' := by
  have HC : Hid (Calls Tryd.prog 68 #[.slice (some ⟨3, 0, none⟩) 7 7, .int .i64 n] w fun e w' => e = .returned (.string (str (weekText n))) ∧ Below w.heap.size w w') := Lib.hid (shorts_any _ 7 P8.weeks n w hv.weeks (by decide) good_weeks)
  generalize weekText n = R at HC ⊢
  clear hv
  go_enter Tryd.func36, Tryd.ntmps36
  go_wp2_with (go_at_call 68; refine HC.out.mono ?_; rintro e w1 ⟨rfl, hb1⟩)
  go_ret
  exact ⟨rfl, hb1⟩
/-- string([]byte{c}) -/
theorem conv_byte (c : Int) (B : Nat) (W : World) (h : W.cell? ⟨B, 0, none⟩ = some (.int .u8 c)) :
    (convert 39 9 (.slice (some ⟨B, 0, none⟩) 1 1)).run Tryd.prog W = .ok (.string (ByteArray.empty.push (UInt8.ofNat c.toNat))) W := by
  rw [run_convert_bytes_string W _ _ 5 _ _ _ Tryd.underlying39 Tryd.underlying5 Tryd.underlying9]
  have := run_bytesToString (P := Tryd.prog) W ⟨B, 0, none⟩ 1 1 [c] (by simp [go_sem, h])
  simpa using this
set_option maxRecDepth 100000 in
set_option maxHeartbeats 4000000 in
theorem rshort_any (W0 : List UInt8) (w : World) (h3 : 3 ≤ W0.length) (h9 : W0.length ≤ 9) (hsm : ∀ c ∈ W0, 97 ≤ c ∧ c ≤ 122) :
    Calls Tryd.prog 69 #[.string (str W0)] w fun e w' => e = .returned (.string (str (P8.short W0))) ∧ Below w.heap.size w w' := by
  have hsz := str_size W0
  have b1 : (1 : Int) ≤ (W0.length : Int) := by omega
  have b3 : (3 : Int) ≤ (W0.length : Int) := by omega
  obtain ⟨c, r, rfl⟩ : ∃ c r, W0 = c :: r := by cases W0 with | nil => simp at h3 | cons c r => exact ⟨c, r, rfl⟩
  have hc := hsm c (by simp)
  have e2 : (str (c :: r)).extract 1 3 = str (((c :: r).drop 1).take 2) := str_cut _ 1 3
  have hix : (str (c :: r))[0]'(by rw [str_size]; simp) = c := rfl
  have hn1 : 97 ≤ c.toNat := UInt8.le_iff_toNat_le.1 hc.1
  have hn2 : c.toNat ≤ 122 := UInt8.le_iff_toNat_le.1 hc.2
  have x1 : IntKind.u8.wrap ((c.toNat : Int) - 97) = (c.toNat : Int) - 97 := u8_id (by omega)
  have x2 : IntKind.u8.wrap ((c.toNat : Int) - 97 + 65) = (c.toNat : Int) - 32 := by rw [u8_id (by omega)]; omega
  have hcv := conv_byte ((c.toNat : Int) - 32)
  have hp : (ByteArray.empty.push (UInt8.ofNat ((c.toNat : Int) - 32).toNat)) = str [c - 32] := by
    have : UInt8.ofNat ((c.toNat : Int) - 32).toNat = c - 32 := by
      apply UInt8.toNat_inj.1
      rw [UInt8.toNat_sub_of_le _ _ (by rw [UInt8.le_iff_toNat_le]; simp; omega)]
      simp; omega
    rw [this]; rfl
  rw [hp] at hcv
  have q1 : ∀ W, (Op.stringOp .add (str [c - 32]) ((str (c :: r)).extract 1 3)).run Tryd.prog W = .ok (.string (str (P8.short (c :: r)))) W := fun W => by
    rw [e2]
    rw [run_string_add_sum (w := W) _ _ (by rw [str_size, str_size]; simp; omega), str_append]; rfl
  generalize str (P8.short (c :: r)) = R at q1 ⊢
  clear hsm hc e2 hn1 hn2 hp
  go_enter Tryd.func69, Tryd.ntmps69
  go_wp2_with fail
  go_region
  go_wp2_with fail
  go_ret
  exact ⟨rfl, ((Below.refl _ _).alloc (Nat.le_refl _) _).drew⟩
set_option maxRecDepth 100000 in
set_option maxHeartbeats 4000000 in
theorem rmonth_text (n : Int) (w : World) : Calls Tryd.prog 35 #[.int .i64 n] w fun e w' => e = .returned (.string (str (monthText n))) ∧ Below w.heap.size w w' := by
  by_cases h0 : n < 1
  · have e : str (monthText n) = ⟨#[]⟩ := by unfold monthText textAt; rw [if_neg (by omega)]; rfl
    rw [e]
    go_enter Tryd.func35, Tryd.ntmps35
    go_wp2_with fail
    go_ret
    exact ⟨rfl, Below.refl _ _⟩
  · by_cases h1 : 12 < n
    · have e : str (monthText n) = ⟨#[]⟩ := by unfold monthText textAt; rw [if_neg (by rw [show (P8.months.length : Int) = 12 from rfl]; omega)]; rfl
      rw [e]
      go_enter Tryd.func35, Tryd.ntmps35
      go_wp2_with fail
      go_ret
      exact ⟨rfl, Below.refl _ _⟩
    · obtain ⟨k, hk⟩ := Int.eq_ofNat_of_zero_le (show 0 ≤ n - 1 by omega)
      have hk7 : k < 12 := by omega
      have hki : (k : Int) < (12 : Int) := by omega
      have hk0 : (0 : Int) ≤ (k : Int) := by omega
      have e : str (monthText n) = str (P8.short (P8.word P8.months k)) := by
        unfold monthText textAt
        rw [hk, if_pos ⟨by omega, by rw [show (P8.months.length : Int) = 12 from rfl]; omega⟩]
        rfl
      obtain ⟨g1, g3⟩ := good_months k hk7
      have hg := fun W => rshort_any (P8.word P8.months k) W g1.1 g1.2 g3
      rw [e]
      generalize str (P8.short (P8.word P8.months k)) = R at hg ⊢
      have HG := Lib.hid hg
      have hw : wrap64 (n - 1) = n - 1 := by unfold wrap64; omega
      
      clear hg e g1 g3
      go_enter Tryd.func35, Tryd.ntmps35
      go_wp2_with first
        | (go_at_call 65; refine (rmonths_any _).mono ?_; rintro e w1 ⟨rfl, hr1, hb1⟩; have c0 := hr1.cell k _ (wcells_get P8.months k hk7); clear hr1)
        | (go_at_call 69; refine (HG.out _).mono ?_; rintro e w2 ⟨rfl, hb2⟩; have hb3 := hb1.trans (hb2.mono hb1.size); clear hb1 hb2)
      go_ret
      exact ⟨rfl, hb3⟩
set_option maxRecDepth 100000 in
set_option maxHeartbeats 4000000 in
theorem rweek_text (n : Int) (w : World) : Calls Tryd.prog 37 #[.int .i64 n] w fun e w' => e = .returned (.string (str (weekText n))) ∧ Below w.heap.size w w' := by
  by_cases h0 : n < 0
  · have e : str (weekText n) = ⟨#[]⟩ := by unfold weekText textAt; rw [if_neg (by omega)]; rfl
    rw [e]
    go_enter Tryd.func37, Tryd.ntmps37
    go_wp2_with fail
    go_ret
    exact ⟨rfl, Below.refl _ _⟩
  · by_cases h1 : 6 < n
    · have e : str (weekText n) = ⟨#[]⟩ := by unfold weekText textAt; rw [if_neg (by rw [show (P8.weeks.length : Int) = 7 from rfl]; omega)]; rfl
      rw [e]
      go_enter Tryd.func37, Tryd.ntmps37
      go_wp2_with fail
      go_ret
      exact ⟨rfl, Below.refl _ _⟩
    · obtain ⟨k, hk⟩ := Int.eq_ofNat_of_zero_le (show 0 ≤ n by omega)
      have hk7 : k < 7 := by omega
      have hki : (k : Int) < (7 : Int) := by omega
      have hk0 : (0 : Int) ≤ (k : Int) := by omega
      have e : str (weekText n) = str (P8.short (P8.word P8.weeks k)) := by
        unfold weekText textAt
        rw [hk, if_pos ⟨by omega, by rw [show (P8.weeks.length : Int) = 7 from rfl]; omega⟩]
        rfl
      obtain ⟨g1, g3⟩ := good_weeks k hk7
      have hg := fun W => rshort_any (P8.word P8.weeks k) W g1.1 g1.2 g3
      rw [e]
      generalize str (P8.short (P8.word P8.weeks k)) = R at hg ⊢
      have HG := Lib.hid hg
      have hw : wrap64 (n - 1) = n - 1 := by unfold wrap64; omega
      have hk := hk
      clear hg e g1 g3
      go_enter Tryd.func37, Tryd.ntmps37
      go_wp2_with first
        | (go_at_call 66; refine (rweeks_any _).mono ?_; rintro e w1 ⟨rfl, hr1, hb1⟩; have c0 := hr1.cell k _ (wcells_get P8.weeks k hk7); clear hr1)
        | (go_at_call 69; refine (HG.out _).mono ?_; rintro e w2 ⟨rfl, hb2⟩; have hb3 := hb1.trans (hb2.mono hb1.size); clear hb1 hb2)
      go_ret
      exact ⟨rfl, hb3⟩
end Go.Proofs.YtggdfgdnpicepaaDoor
