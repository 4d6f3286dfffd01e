/- The walk of the closure of offset.Parse that takes digits from the front of a captured string (chapter 4). -/
import Derived.Test.YtoabengifbokdaaDoorPlain4b
import Derived.Test.YtoabengifbokdaaDoorCom
import Derived.Test.YtoabengifbokdaaDoorChecked
namespace Go.Proofs.YtoabengifbokdaaDoor
open Go.RowKit
set_option linter.unusedVariables false

theorem cnt_full (l : List UInt8) (n k : Nat) (hk : k ≤ l.length) (hd : ∀ i, i < k → ∀ c, l[i]? = some c → P4.isD c = true) (h : k = n ∨ (k ≤ n ∧ ∀ c, l[k]? = some c → P4.isD c = false)) : P4.cnt l n = k := by
  unfold P4.cnt
  rcases h with rfl | ⟨h1, h2⟩
  · have := P4.lead_ge l k hk hd; omega
  · rw [P4.lead_eq l k hk hd h2]; omega

set_option maxHeartbeats 1000000 in
theorem digits_any (s : ByteArray) (n : Nat) (B : Nat) (w : World) (hs : s.size ≤ 1000000) (hn : n ≤ 3) (hc : w.cell? ⟨B, 0, none⟩ = some (.string s)) (hf : w.frozen? ⟨B, 0, none⟩ = false) :
    Calls Tryd.prog 29 #[.int .i64 n, .pointer (some ⟨B, 0, none⟩)] w fun e w' => e = .returned (.string (s.extract 0 (P4.cnt (P4.bl s) n))) ∧ w.setCell ⟨B, 0, none⟩ (.string (s.extract (P4.cnt (P4.bl s) n) s.size)) = w' := by
  have hlen := P4.bl_len s
  go_enter Tryd.func29, Tryd.ntmps29
  go_wp2
  go_loop [4] (fun i => ∃ k : Nat, k ≤ n ∧ k ≤ s.size ∧ i = .int .i64 k ∧ (∀ i, i < k → ∀ c, (P4.bl s)[i]? = some c → P4.isD c = true)) (fun i => 4 - (intOf i).toNat)
  case atStart => exact ⟨0, by omega, by omega, rfl, fun i hi => absurd hi (by omega)⟩
  case round =>
    obtain ⟨k, hkn, hks, rfl, hdig⟩ := hrel
    by_cases hlt : k < s.size
    · have hlti : (k : Int) < (s.size : Int) := by omega
      by_cases hkn2 : k < n
      · have hkni : (k : Int) < (n : Int) := by omega
        have hget := P4.bl_get s k hlt
        by_cases h48 : 48 ≤ ((s[k]'hlt).toNat : Int)
        · by_cases h57 : ((s[k]'hlt).toNat : Int) ≤ 57
          · have hdig' : ∀ i, i < k + 1 → ∀ c, (P4.bl s)[i]? = some c → P4.isD c = true := by
              intro i hi c hc
              by_cases e : i = k
              · subst e; rw [hget] at hc; injection hc with hc; subst hc; simp only [P4.isD, decide_eq_true_eq]; omega
              · exact hdig i (by omega) c hc
            have HD := Lib.hid hdig'
            clear hdig hdig' hget
            go_wp2
            go_round
            case rel => exact ⟨k + 1, by omega, by omega, by go_num, HD.out⟩
            case measure => simp [intOf]; omega
          · have hno : ∀ c, (P4.bl s)[k]? = some c → P4.isD c = false := by
              intro c hc; rw [hget] at hc; injection hc with hc; subst hc; simp only [P4.isD, decide_eq_false_iff_not]; omega
            have HC := Lib.hid (cnt_full _ n k (by omega) hdig (.inr ⟨hkn, hno⟩))
            clear hdig hlen hget hno
            go_wp2
            go_ret
            exact ⟨by rw [HC.out]; rfl, by rw [HC.out]⟩
        · have hno : ∀ c, (P4.bl s)[k]? = some c → P4.isD c = false := by
            intro c hc; rw [hget] at hc; injection hc with hc; subst hc; simp only [P4.isD, decide_eq_false_iff_not]; omega
          have HC := Lib.hid (cnt_full _ n k (by omega) hdig (.inr ⟨hkn, hno⟩))
          clear hdig hlen hget hno
          go_wp2
          go_ret
          exact ⟨by rw [HC.out]; rfl, by rw [HC.out]⟩
      · have hkni : ¬ (k : Int) < (n : Int) := by omega
        have HC := Lib.hid (cnt_full _ n k (by omega) hdig (.inl (by omega)))
        clear hdig hlen
        go_wp2
        go_ret
        exact ⟨by rw [HC.out]; rfl, by rw [HC.out]⟩
    · have hlti : ¬ (k : Int) < (s.size : Int) := by omega
      have HC := Lib.hid (cnt_full _ n k (by omega) hdig (.inr ⟨hkn, fun c hc => by rw [List.getElem?_eq_none (by omega)] at hc; cases hc⟩))
      clear hdig hlen
      go_wp2
      go_ret
      exact ⟨by rw [HC.out]; rfl, by rw [HC.out]⟩
end Go.Proofs.YtoabengifbokdaaDoor
