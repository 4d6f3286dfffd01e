/- The walk of the law NumericRefuses (chapter 20): its parts. -/
import Derived.Test.YtmgmgdjddimgmaaDoorLaws20b
import Derived.Deep.RegionHeld3
namespace Go.Proofs.YtmgmgdjddimgmaaDoor
open Go.RowKit
set_option linter.unusedVariables false

set_option maxRecDepth 100000 in
set_option maxHeartbeats 4000000 in
theorem saves4_any (B c : Nat) (L : List Int) (w : World) (hL0 : 0 < L.length) (hL3 : L.length ≤ 4) (hI : IntsIn w B L) :
    Calls Tryd.prog 18 #[.slice (some ⟨B, 0, none⟩) L.length c] w (SavesRes w L) := by
  have hli : (L.length : Int) ≤ 4 := by omega
  have HBlt := Lib.hid hI.1
  have hO : w.ownsRow w.heap.size 48 11 (.slice none 0 0) 0 (rcells (mkT L 0)) := ⟨rfl, .inl ⟨rfl, rfl⟩⟩
  go_enter Tryd.func18, Tryd.ntmps18
  go_wp2_with fail
  go_loopw [3, 8] (fun v i wr => ∃ k : Nat, k ≤ L.length ∧ i = .int .i64 k ∧ wr.ownsRow w.heap.size 48 11 v k (rcells (mkT L k)) ∧ IntsIn wr B L ∧ Below w.heap.size w wr) (fun _ i _ => L.length - (intOf i).toNat)
  case atStart => exact ⟨0, Nat.zero_le _, rfl, hO, hI, Below.refl _ _⟩
  case round =>
    clear hO hI
    obtain ⟨k, hk, rfl, hO, hI, hb⟩ := hrel
    by_cases hlt : k < L.length
    · obtain ⟨x, hx⟩ : ∃ x, L[k]? = some x := ⟨_, List.getElem?_eq_getElem hlt⟩
      have c0 := hI.2 k x hx
      have hki : (k : Int) < (L.length : Int) := by omega
      have HS : Hid (rcells (mkT L (k + 1)) = rcells (mkT L k) ++ (mkR x).cells) := by
        rw [mkT, List.take_add_one, hx, List.map_append]
        exact Lib.hid (rcells_snoc _ _)
      have hNB : Hid (Blk (wr.alloc (.cells #[.string ⟨#[82]⟩, .int .i64 0, .int .i64 0, .int .i64 0, .int .i64 0, .int .i64 0, .int .i64 0, .int .i64 0, .int .i64 0, .int .i64 x, .string ⟨#[]⟩] 48)) wr.heap.size 48 #[.string ⟨#[82]⟩, .int .i64 0, .int .i64 0, .int .i64 0, .int .i64 0, .int .i64 0, .int .i64 0, .int .i64 0, .int .i64 0, .int .i64 x, .string ⟨#[]⟩]) := Lib.hid (Blk.new _ _ _)
      have HO := Lib.hid (hO.alloc (.cells #[.string ⟨#[82]⟩, .int .i64 0, .int .i64 0, .int .i64 0, .int .i64 0, .int .i64 0, .int .i64 0, .int .i64 0, .int .i64 0, .int .i64 x, .string ⟨#[]⟩] 48))
      have HI := Lib.hid (hI.alloc (.cells #[.string ⟨#[82]⟩, .int .i64 0, .int .i64 0, .int .i64 0, .int .i64 0, .int .i64 0, .int .i64 0, .int .i64 0, .int .i64 0, .int .i64 x, .string ⟨#[]⟩] 48))
      have HB := Lib.hid (hb.alloc hb.size (.cells #[.string ⟨#[82]⟩, .int .i64 0, .int .i64 0, .int .i64 0, .int .i64 0, .int .i64 0, .int .i64 0, .int .i64 0, .int .i64 0, .int .i64 x, .string ⟨#[]⟩] 48))
      have HK := Lib.hid (show k ≤ 3 by omega)
      obtain ⟨i0, hi, hz0, hz1, hz2⟩ := info_parts infoRule
      clear hO hI hb hx
      go_wp2_with (at_builtin; refine wpList_append_own _ rfl _ _ 36 rfl w.heap.size 48 i0 _ 11 104 Tryd.underlying36 hi hz0 hz1 hz2 rfl (by decide) _ _ _ rfl HO.out ⟨wr.heap.size, 0, none⟩ 1 1 (mkR x).cells rfl rfl (blk_cells hNB.out) (by simp [mkR, RV.cells, Value.oneCell']) (by have := HK.out; simp only [maxLen]; omega) (by have := HK.out; omega) HB.out.size ?_)
      intro v1 wa hown hgr hne
      have hb3 := own_grown HB.out HO.out hgr HB.out.size (Nat.le_refl _)
      have hI2 := HI.out.grown HO.out hgr HBlt.out
      rw [← HS.out] at hown
      clear hgr hne HO HI HB hNB HS
      go_wp2_with fail
      go_roundw
      case rel => exact ⟨k + 1, by omega, by go_num, hown, hI2, hb3⟩
      case measure => simp [intOf]; omega
    · obtain rfl : k = L.length := by omega
      have hki : ¬ (L.length : Int) < (L.length : Int) := by omega
      rw [mkT, List.take_length] at hO
      obtain ⟨A, c', rfl, hRl⟩ := rules_of_own hO (by rw [List.length_map]) hL0
      rw [List.length_map]
      clear hO hI
      go_wp2_with fail
      go_ret
      exact ⟨A, c', rfl, hRl, hb⟩


/-- era and rules of saves: refused with an error -/
def Refused (off kind save : Int) (L : List Int) (E : Int) : Prop := P20.expansion kind off save L = ([], E)
theorem ref_kind (off kind save : Int) (L : List Int) (h : kind < 0 ∨ 2 < kind) : Refused off kind save L 2 := exp_else kind off save L h
theorem ref_two (off one two : Int) (h1 : 0 < one) (h2 : two < 0) : Refused off 2 0 [0, one, 0, two] 14 := by
  have ho : P20.other [0, one, 0, two] = (0, false) := by
    unfold P20.other
    rw [P20.otherFrom, if_pos rfl, P20.otherFrom, if_neg (by omega), if_neg (by simp), P20.otherFrom, if_pos rfl, P20.otherFrom, if_neg (by omega), if_pos ⟨by omega, by omega⟩]
  unfold Refused
  rw [exp_isnt off 0 _ (by rw [ho]), if_pos]
  rw [List.any_eq_true]
  exact ⟨one, by simp, decide_eq_true (by omega)⟩
theorem ref_far (off save : Int) (L : List Int) (h : off ≤ -86400 ∨ 86400 ≤ off) : Refused off 0 save L 3 := by
  unfold Refused
  rw [exp_none, jFrom_one, Int.add_zero, P20.one, if_pos (P20.text_out h)]
theorem ref_sum (off save : Int) (L : List Int) (h : off + save ≤ -86400 ∨ 86400 ≤ off + save) : Refused off 1 save L 3 := by
  unfold Refused
  rw [exp_fixed, jFrom_one, P20.one, if_pos (P20.text_out h)]
theorem ref_named (off s : Int) (hs : s ≠ 0) (h : off ≤ -86400 ∨ 86400 ≤ off) : Refused off 2 0 [0, s] 3 := by
  have ho : P20.other [0, s] = (s, true) := by simp [P20.other, P20.otherFrom, hs]
  unfold Refused
  rw [exp_is off 0 _ (by rw [ho]), ho, jFrom_two, Int.add_zero, P20.both, if_pos (.inl (P20.text_out h))]
theorem ref_named2 (off s : Int) (hs : s ≠ 0) (h : off + s ≤ -86400 ∨ 86400 ≤ off + s) : Refused off 2 0 [s, 0] 3 := by
  have ho : P20.other [s, 0] = (s, true) := by simp [P20.other, P20.otherFrom, hs]
  unfold Refused
  rw [exp_is off 0 _ (by rw [ho]), ho, jFrom_two, P20.both, if_pos (.inr (P20.text_out h))]
end Go.Proofs.YtmgmgdjddimgmaaDoor
