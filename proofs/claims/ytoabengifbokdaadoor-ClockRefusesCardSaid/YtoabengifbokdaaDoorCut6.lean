/- The walk of clock.cut (chapter 6). -/
import Derived.Test.YtoabengifbokdaaDoorBlk
import Derived.Test.YtoabengifbokdaaDoorChecked
import Derived.Test.YtoabengifbokdaaDoorPlain6
import Derived.Lib.OthersKept
import Derived.OpenShut
namespace Go.Proofs.YtoabengifbokdaaDoor
open Go.RowKit
set_option linter.unusedVariables false

def arrL : Array Value := #[.int .i32 119, .int .i64 0, .int .i32 115, .int .i64 1, .int .i32 117, .int .i64 2, .int .i32 103, .int .i64 2, .int .i32 122, .int .i64 2]
theorem arrL_at (k : Nat) (hk : k < 5) : arrL[k * 2]? = some (.int .i32 (P6.letL k)) ∧ arrL[k * 2 + 1]? = some (.int .i64 (P6.basL k)) := by
  match k, hk with
  | 0, _ => exact ⟨rfl, rfl⟩
  | 1, _ => exact ⟨rfl, rfl⟩
  | 2, _ => exact ⟨rfl, rfl⟩
  | 3, _ => exact ⟨rfl, rfl⟩
  | 4, _ => exact ⟨rfl, rfl⟩
theorem letters_any (w : World) : Calls Tryd.prog 25 #[] w fun e w' => e = .returned (.slice (some ⟨w.heap.size, 0, none⟩) 5 5) ∧ w' = w.alloc (.cells arrL 53) := by
  go_enter Tryd.func25, Tryd.ntmps25
  go_wp2_with fail
  go_ret
  exact ⟨rfl, rfl⟩
set_option maxRecDepth 100000 in
set_option maxHeartbeats 4000000 in
theorem ccut_any (s : ByteArray) (w : World) (hs : s.size ≤ 1000000) :
    Calls Tryd.prog 21 #[.string s] w fun e w' => e = .returned (.tuple #[.string (P6.front s), .int .i64 (P6.cbase s)]) ∧ Below w.heap.size w w' := by
  go_enter Tryd.func21, Tryd.ntmps21
  go_wp2_with fail
  go_loopw [4, 5] (fun at' last wr => ∃ (pos : Nat) (a l : Int), pos ≤ s.size ∧ at' = .int .i64 a ∧ last = .int .i32 l ∧ P6.Met s pos a l ∧ wr = w.iter s pos) (fun _ _ wr => s.size - wr.iterPos w.heap.size)
  case atStart => exact ⟨0, 0, 0, Nat.zero_le _, rfl, rfl, .inl ⟨rfl, rfl, rfl⟩, rfl⟩
  case round =>
    obtain ⟨pos, a, l, hp, rfl, rfl, hM, rfl⟩ := hrel
    have hbd := hM.bd hs
    by_cases hlt : pos < s.size
    · have hnx := fun ty => run_next_any (P := Tryd.prog) w s pos ty hlt
      have hst := P6.Met.step s pos hlt
      generalize Utf8.decode s pos = rn at hnx hst
      obtain ⟨r, n⟩ := rn
      simp only at hnx hst
      have HST := Lib.hid hst
      clear hst hM
      go_wp2_with fail
      go_roundw
      case rel => exact ⟨_, _, _, HST.out.2.1, rfl, rfl, HST.out.1, rfl⟩
      case measure => rw [World.iterPos_iter, World.iterPos_iter]; have := HST.out.2.2; omega
    · have hnx := fun ty => run_next_end (P := Tryd.prog) w s pos ty hlt
      obtain rfl : pos = s.size := by omega
      have HM := Lib.hid hM
      clear hM hlt hp
      go_wp2_with fail
      refine (letters_any _).mono ?_
      rintro e w1 ⟨rfl, hw1⟩
      have hB : Blk w1 (w.iter s s.size).heap.size 53 arrL := by rw [hw1]; exact Blk.new _ _ _
      have hit : Below w.heap.size w (w.iter s s.size) := (Below.refl _ _).alloc (Nat.le_refl _) _
      have hb : Below w.heap.size w w1 := by rw [hw1]; exact hit.alloc hit.size _
      clear hw1 hit
      generalize (w.iter s s.size).heap.size = B at hB
      obtain ⟨ha0, ha1, hl0, hl1⟩ := hbd
      have hsz : (s.size : Int) ≤ 1000000 := by omega
      clear hnx
      go_wp2_with fail
      go_loopw [20] (fun i w2 => ∃ k : Nat, k ≤ 5 ∧ i = .int .i64 k ∧ Hid (∀ j, j < k → P6.letL j ≠ l) ∧ Blk w2 B 53 arrL ∧ Below w.heap.size w w2) (fun i _ => 5 - (intOf i).toNat)
      case atStart => exact ⟨0, by omega, rfl, fun j hj => absurd hj (Nat.not_lt_zero _), hB, hb⟩
      case round =>
        obtain ⟨k, hk, rfl, HN, hB2, hb2⟩ := hrel
        by_cases hlt : k < 5
        · obtain ⟨a0, a1⟩ := arrL_at k hlt
          have c0 : wr.cell? ⟨B, k * 2, none⟩ = some (.int .i32 (P6.letL k)) := (hB2.cell _).trans a0
          have c1 : wr.cell? ⟨B, k * 2 + 1, none⟩ = some (.int .i64 (P6.basL k)) := (hB2.cell _).trans a1
          have hki : (k : Int) < 5 := by omega
          have hal := hb2.alloc hb2.size (.cells #[.int .i32 (P6.letL k), .int .i64 (P6.basL k)] 53)
          have hBl := hB2.alloc (.cells #[.int .i32 (P6.letL k), .int .i64 (P6.basL k)] 53)
          clear a0 a1
          by_cases he : P6.letL k = l
          · have hit := P6.cut_hit HM.out k hlt he
            have hq : (P6.letL k == l) = true := by rw [beq_iff_eq]; exact he
            obtain ⟨i0, i1, i2, i3⟩ := hit
            have i4 : a ≤ (s.size : Int) := by omega
            have i5 : a.toNat = s.size - 1 := by omega
            have HI := Lib.hid i2
            have HI3 := Lib.hid i3
            have HI5 := Lib.hid i5
            clear he i0 i1 i2 i3 i5
            go_wp2_with fail
            go_quiet (fail)
            go_wp2_with fail
            go_ret2
            exact ⟨by rw [HI.out, HI3.out, ← HI5.out]; rfl, below_drewN hal _⟩
          · have hq : (P6.letL k == l) = false := by rw [beq_eq_false_iff_ne]; exact he
            have HE := Lib.hid he
            clear he
            go_wp2_with fail
            go_roundw
            case rel => exact ⟨k + 1, by omega, by go_num, fun j hj => by
              rcases Nat.lt_succ_iff_lt_or_eq.mp hj with q | q
              · exact HN.out j q
              · rw [q]; exact HE.out, hBl, hal⟩
            case measure => simp [intOf]; omega
        · obtain rfl : k = 5 := by omega
          have hm := P6.cut_miss HM.out HN.out
          have HF := Lib.hid hm
          clear hm
          go_wp2_with fail
          go_ret2
          exact ⟨by rw [HF.out.1, HF.out.2]; rfl, hb2⟩
end Go.Proofs.YtoabengifbokdaaDoor
