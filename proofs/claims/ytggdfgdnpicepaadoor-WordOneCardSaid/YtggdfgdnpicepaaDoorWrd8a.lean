/- The walks of word.small and of the reference's small (chapter 8). -/
import Derived.Test.YtggdfgdnpicepaaDoorChecked
import Derived.Test.YtggdfgdnpicepaaDoorCs
import Derived.Test.YtggdfgdnpicepaaDoorPlain08
namespace Go.Proofs.YtggdfgdnpicepaaDoor
open Go.RowKit
set_option linter.unusedVariables false
set_option linter.unusedSimpArgs false

theorem u8_id {n : Int} (h : 0 ≤ n ∧ n ≤ 255) : IntKind.u8.wrap n = n := by
  unfold IntKind.wrap
  simp [IntKind.bits, IntKind.signed]
  omega
/-- a byte's small form, by its number -/
theorem low_num (c : UInt8) : ((P8.low c).toNat : Int) = if (65 : Int) ≤ (c.toNat : Int) ∧ (c.toNat : Int) ≤ 90 then (c.toNat : Int) + 32 else (c.toNat : Int) := by
  have key : ∀ n : Fin 256, ((P8.low (UInt8.ofNat n.val)).toNat : Int) = if (65 : Int) ≤ (n.val : Int) ∧ (n.val : Int) ≤ 90 then (n.val : Int) + 32 else (n.val : Int) := by decide +kernel
  simpa using key ⟨c.toNat, c.toNat_lt⟩
/-- the first k letters are small ones -/
def lowTo (l : List UInt8) (k : Nat) : List UInt8 := (l.take k).map P8.low ++ l.drop k
theorem lowTo_zero (l : List UInt8) : lowTo l 0 = l := by simp [lowTo]
theorem lowTo_all (l : List UInt8) : lowTo l l.length = l.map P8.low := by simp [lowTo]
theorem lowTo_len (l : List UInt8) (k : Nat) : (lowTo l k).length = l.length := by simp [lowTo]; omega
theorem lowTo_get (l : List UInt8) (k : Nat) (c : UInt8) (h : l[k]? = some c) : (lowTo l k)[k]? = some c := by
  have hk := (List.getElem?_eq_some_iff.1 h).1
  unfold lowTo
  rw [List.getElem?_append_right (by simp; omega)]
  simp only [List.length_map, List.length_take, Nat.min_eq_left (Nat.le_of_lt hk), Nat.sub_self, List.getElem?_drop, Nat.add_zero]
  exact h
theorem lowTo_set (l : List UInt8) (k : Nat) (c : UInt8) (h : l[k]? = some c) : (lowTo l k).set k (P8.low c) = lowTo l (k + 1) := by
  have hk := (List.getElem?_eq_some_iff.1 h).1
  unfold lowTo
  rw [List.set_append_right _ _ (by simp; omega)]
  simp only [List.length_map, List.length_take, Nat.min_eq_left (Nat.le_of_lt hk), Nat.sub_self]
  rw [List.take_add_one, h, List.map_append, List.append_assoc]
  congr 1
  rw [List.drop_eq_getElem_cons hk]
  have : l[k] = c := by rw [List.getElem?_eq_getElem hk] at h; injection h
  simp [this]
theorem lowTo_same (l : List UInt8) (k : Nat) (c : UInt8) (h : l[k]? = some c) (hc : P8.low c = c) : lowTo l k = lowTo l (k + 1) := by
  rw [← lowTo_set l k c h, hc]
  have hk : k < (lowTo l k).length := by rw [lowTo_len]; exact (List.getElem?_eq_some_iff.1 h).1
  apply List.ext_getElem?
  intro j
  by_cases e : k = j
  · subst e; rw [List.getElem?_set_self hk]; exact lowTo_get l k c h
  · rw [List.getElem?_set_ne e]

set_option maxRecDepth 100000 in
set_option maxHeartbeats 8000000 in
theorem small_any (s : ByteArray) (w : World) (hs : s.size ≤ 1000000) :
    Calls Tryd.prog 83 #[.string s] w fun e w' => e = .returned (.string (str (s.data.toList.map P8.low))) ∧ Below w.heap.size w w' := by
  obtain ⟨cap, W0, hcv, hb0, hc0⟩ := bytes_of Tryd.underlying9 Tryd.underlying39 Tryd.underlying5 w s
  obtain ⟨l, hl⟩ : ∃ l, s.data.toList = l := ⟨_, rfl⟩
  have hsz : s.size = l.length := by rw [← hl]; rfl
  rw [hl] at hc0 ⊢
  rw [hsz] at hcv hs
  have HB := Lib.hid hb0; have HC := Lib.hid hc0
  clear hl hsz hb0 hc0
  go_enter Tryd.func83, Tryd.ntmps83
  go_wp2_with fail
  go_loopw [10] (fun i W => ∃ k : Nat, k ≤ l.length ∧ i = .int .i64 k ∧ Cs W w.heap.size (bvs (lowTo l k)) ∧ Below w.heap.size w W) (fun i _ => l.length - (intOf i).toNat)
  case atStart => exact ⟨0, Nat.zero_le _, rfl, by rw [lowTo_zero]; exact HC.out, HB.out⟩
  case round =>
    obtain ⟨k, hk, rfl, hcs, hb⟩ := hrel
    by_cases hlt : k < l.length
    · obtain ⟨c, hc⟩ : ∃ c, l[k]? = some c := ⟨_, List.getElem?_eq_getElem hlt⟩
      have e0 := hcs.cell k _ (bvs_get _ _ _ (lowTo_get l k c hc))
      have f0 := hcs.frozen k (by rw [bvs_len, lowTo_len]; exact hlt)
      have hki : (k : Int) < (l.length : Int) := by omega
      have HCS := Lib.hid hcs; have HBB := Lib.hid hb; have HCC := Lib.hid hc
      have hln := low_num c
      have hc256 : (c.toNat : Int) ≤ 255 := by have := c.toNat_lt; omega
      obtain ⟨n, hn⟩ : ∃ n : Nat, c.toNat = n := ⟨_, rfl⟩
      rw [hn] at e0 hln hc256
      clear hcs hb hc
      by_cases hU : (65 : Int) ≤ (n : Int) ∧ (n : Int) ≤ 90
      · rw [if_pos hU] at hln
        obtain ⟨h1, h2⟩ := hU
        have x1 : IntKind.u8.wrap ((n : Int) - 65) = (n : Int) - 65 := u8_id (by omega)
        have x2 : IntKind.u8.wrap ((n : Int) - 65 + 97) = (n : Int) + 32 := by rw [u8_id (by omega)]; omega
        have HL := Lib.hid hln
        clear hln hc256
        go_wp2_with fail
        go_roundw
        case rel => exact ⟨k + 1, by omega, by go_num, by rw [← lowTo_set l k c HCC.out, ← bvs_set, HL.out]; exact HCS.out.set_ k _, HBB.out.setCell (p := ⟨w.heap.size, k, none⟩) (Nat.le_refl _) _⟩
        case measure => simp [intOf]; omega
      · rw [if_neg hU] at hln
        have HL : Hid (P8.low c = c) := Lib.hid (by apply UInt8.toNat_inj.1; have := hn; omega)
        clear hln hc256
        by_cases h1 : (65 : Int) ≤ (n : Int)
        · have h2 : ¬ (n : Int) ≤ 90 := fun q => hU ⟨h1, q⟩
          clear hU
          go_wp2_with fail
          go_roundw
          case rel => exact ⟨k + 1, by omega, by go_num, by rw [← lowTo_same l k c HCC.out HL.out]; exact HCS.out, HBB.out⟩
          case measure => simp [intOf]; omega
        · clear hU
          go_wp2_with fail
          go_roundw
          case rel => exact ⟨k + 1, by omega, by go_num, by rw [← lowTo_same l k c HCC.out HL.out]; exact HCS.out, HBB.out⟩
          case measure => simp [intOf]; omega
    · obtain rfl : k = l.length := by omega
      rw [lowTo_all] at hcs
      have hcb := conv_own (P := Tryd.prog) Tryd.underlying39 Tryd.underlying5 Tryd.underlying9 wr w.heap.size l.length cap (l.map P8.low) (by simp) (fun j u hu => hcs.cell j u hu)
      have HBB := Lib.hid hb
      clear hcs hb
      go_wp2_with fail
      go_ret
      exact ⟨rfl, HBB.out⟩
end Go.Proofs.YtggdfgdnpicepaaDoor
