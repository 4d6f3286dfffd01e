/- The walk of the law OffsetSpoilt (chapter 4). -/
import Derived.Test.YtgaacbmihcbedaaDoorWorks4
import Derived.Test.YtgaacbmihcbedaaDoorPlain4e
import Derived.OpenShut
import Derived.Deep.DeepCutAuto
import Derived.Deep.CutBlock
namespace Go.Proofs.YtgaacbmihcbedaaDoor
open Go.RowKit
set_option linter.unusedVariables false

theorem print_len (y : Int) : (P4.print y).1.length ≤ 1000000 := by
  unfold P4.print
  split
  · simp
  · split
    · have := show_len y.natAbs (by omega); simp only [List.length_cons]; omega
    · have := show_len y.toNat (by omega); simp only; omega
/-- string([]byte{c}) -/
theorem conv_byte (c : Int) (B : Nat) (W : World) (h : W.cell? ⟨B, 0, none⟩ = some (.int .u8 c)) :
    (convert 32 9 (.slice (some ⟨B, 0, none⟩) 1 1)).run Tryd.prog W = .ok (.string (ByteArray.empty.push (UInt8.ofNat c.toNat))) W := by
  rw [run_convert_bytes_string W _ _ 5 _ _ _ Tryd.underlying32 Tryd.underlying5 Tryd.underlying9]
  have := run_bytesToString (P := Tryd.prog) W ⟨B, 0, none⟩ 1 1 [c] (by simp [go_sem, h])
  simpa using this
set_option maxRecDepth 100000 in
set_option maxHeartbeats 2000000 in
theorem walkOffsetSpoilt (n a b c : Int) (w : World) (hn : (Lit.int .u32 n).wf = true) (ha : (Lit.int .u8 a).wf = true) (hb : (Lit.int .u8 b).wf = true) (hc : (Lit.int .u8 c).wf = true) (hv : Vars w) :
    Calls Tryd.prog 6 #[.int .u32 n, .int .u8 a, .int .u8 b, .int .u8 c] w fun e w' => e = .returned (.bool true) ∧ Below w.heap.size w w' := by
  have hn2 := bounds_u32 hn
  have ha2 := bounds_u8 ha
  have hb2 := bounds_u8 hb
  have hc2 := bounds_u8 hc
  clear hn ha hb hc
  obtain ⟨X, hX⟩ : ∃ X : Nat, n % 604800 = (X : Int) := ⟨(n % 604800).toNat, by omega⟩
  have hX2 : X ≤ 604799 := by omega
  have hn0 := hn2.1
  have hn1 := hn2.2
  have ha0 := ha2.1
  have ha1 := ha2.2
  clear hn2 ha2
  have c1 : Hid (∀ W, Vars W → Calls Tryd.prog 19 #[.int .i64 (X : Int)] W fun e w' => e = .returned (.tuple #[.string (str (P4.showN X)), .int .i64 0]) ∧ Below W.heap.size W w') := fun W h => by have q := print_any (X : Int) W (by omega) (by omega) h; rw [P4.print_nat X hX2] at q; exact q
  have hl : (str (P4.showN X)).size ≤ 20 := show_len X hX2
  have hl0 : 0 < (str (P4.showN X)).size := by
    rw [str_size]
    exact List.length_pos_iff.2 (P4.show_ne X)
  obtain ⟨S, hS⟩ : ∃ S, S = str (P4.showN X) := ⟨_, rfl⟩
  rw [← hS] at c1 hl hl0
  clear hS
  have hie : S.toList.isEmpty = false := by
    rw [ByteArray.toList_eq]
    have hz := P4.bl_len S
    rcases hd : S.data.toList with _ | ⟨x, y⟩
    · exfalso; rw [show P4.bl S = [] from hd] at hz; simp only [List.length_nil] at hz; omega
    · rfl
  have hne : ¬ S.toList = [] := by intro e; rw [e] at hie; cases hie
  go_enter Tryd.func6, Tryd.ntmps6
  go_wp2_with fail
  refine (c1.out _ hv).mono ?_
  rintro e w1 ⟨rfl, hb1⟩
  have hsi : (0 : Int) < (S.size : Int) := by omega
  obtain ⟨I, hI⟩ : ∃ I : Nat, a % (S.size : Int) = (I : Int) := ⟨(a % (S.size : Int)).toNat, by have := Int.emod_nonneg a (by omega : (S.size : Int) ≠ 0); omega⟩
  have hI2 : I < S.size := by have := Int.emod_lt_of_pos a hsi; omega
  have hI3 : I ≤ S.size := by omega
  have hI4 : I + 1 ≤ S.size := by omega
  go_upto_region 5 with (fail)
  go_cut [12] (fun s12 wx => ∃ T : ByteArray, s12 = .string T ∧ T.size ≤ 100 ∧ Below w.heap.size w wx)
  case first =>
    go_quiet (fail)
    go_wp2_with fail
    go_meet
    exact ⟨_, rfl, by simp only [ByteArray.size_append, ByteArray.size_extract]; omega, below_drewN hb1 _⟩
  case rest =>
    obtain ⟨T, rfl, hT, hbT⟩ := hcut
    go_upto_block 0 with (fail)
    go_cut [12] (fun s12 wx => ∃ T : ByteArray, s12 = .string T ∧ T.size ≤ 200 ∧ Below w.heap.size w wx)
    case first =>
      have hcv := conv_byte c
      have hsz : ∀ x : UInt8, (ByteArray.empty.push x).size = 1 := fun _ => rfl
      by_cases hb31 : b % 3 = 1
      · have hbt : (b % 3 == 1) = true := by rw [beq_iff_eq]; exact hb31
        clear hb31
        go_wp2_with fail
        go_region
        go_wp2_with fail
        go_meet
        exact ⟨_, rfl, by simp only [ByteArray.size_append, ByteArray.size_extract, hsz]; omega, (hbT.alloc hbT.size _).drew⟩
      · have hbt : (b % 3 == 1) = false := by rw [beq_eq_false_iff_ne]; exact hb31
        by_cases hb32 : b % 3 = 2
        · have hbt2 : (b % 3 == 2) = true := by rw [beq_iff_eq]; exact hb32
          clear hb31 hb32
          go_wp2_with fail
          go_region
          go_wp2_with fail
          go_meet
          exact ⟨_, rfl, by simp only [ByteArray.size_append, ByteArray.size_extract, hsz]; omega, (hbT.alloc hbT.size _).drew⟩
        · have hbt2 : (b % 3 == 2) = false := by rw [beq_eq_false_iff_ne]; exact hb32
          clear hb31 hb32
          go_wp2_with fail
          go_meet
          exact ⟨T, rfl, by omega, hbT⟩
    case rest =>
      clear hT hbT T
      obtain ⟨T, rfl, hT, hbT2⟩ := hcut
      have hp : Hid (∀ W, Vars W → Calls Tryd.prog 17 #[.string T] W fun e w' => e = .returned (.tuple #[.int .i64 (P4.parse (P4.bl T)).1, .int .i64 (P4.parse (P4.bl T)).2]) ∧ Below W.heap.size W w') := fun W h => parse_any T W (by omega) h
      have hcs := P4.parse_cases (P4.bl T)
      generalize P4.parse (P4.bl T) = y at hp hcs
      obtain ⟨Y, E⟩ := y
      rcases hcs with ⟨hE, hy0, hy1⟩ | ⟨hY, hE⟩
      · simp only at hE hy0 hy1
        subst hE
        have hpp := P4.parse_print Y hy0 hy1
        have hpr : Hid (∀ W, Vars W → Calls Tryd.prog 19 #[.int .i64 Y] W fun e w' => e = .returned (.tuple #[.string (str (P4.print Y).1), .int .i64 0]) ∧ Below W.heap.size W w') := fun W h => by
          have q := print_any Y W (by omega) (by omega) h; rw [hpp.1] at q; exact q
        have hp2 : Hid (∀ W, Vars W → Calls Tryd.prog 17 #[.string (str (P4.print Y).1)] W fun e w' => e = .returned (.tuple #[.int .i64 Y, .int .i64 0]) ∧ Below W.heap.size W w') := fun W h => by
          have hlen : (P4.print Y).1.length ≤ 1000000 := print_len Y
          have q := parse_any (str (P4.print Y).1) W hlen h
          simp only [P4.pv, P4.pe, show P4.parse (P4.bl (str (P4.print Y).1)) = (Y, 0) from hpp.2] at q; exact q
        generalize str (P4.print Y).1 = U at hpr hp2
        clear hpp
        go_wp2_with fail
        refine (hp.out _ (hv.below hbT2)).mono ?_
        rintro e w11 ⟨rfl, hc11⟩
        have hb11 := hbT2.trans (hc11.mono hbT2.size)
        have hv11 := hv.below hb11
        go_wp2_with fail
        refine (hpr.out _ hv11).mono ?_
        rintro e w12 ⟨rfl, hc12⟩
        have hb12 := hb11.trans (hc12.mono hb11.size)
        have hv12 := hv.below hb12
        go_wp2_with fail
        refine (hp2.out _ hv12).mono ?_
        rintro e w13 ⟨rfl, hc13⟩
        have hb13 := hb12.trans (hc13.mono hb12.size)
        have hv13 := hv.below hb13
        go_wp2_with fail
        refine (works4_any _ hv13).mono ?_
        rintro e w14 ⟨rfl, hc14⟩
        have hb14 := hb13.trans (hc14.mono hb13.size)
        have hv14 := hv.below hb14
        go_wp2_with fail
        go_ret
        exact ⟨rfl, hb14⟩
      · simp only at hY hE
        subst hY
        rcases hE with rfl | rfl
        all_goals
          go_wp2_with fail
          refine (hp.out _ (hv.below hbT2)).mono ?_
          rintro e w11 ⟨rfl, hc11⟩
          have hb11 := hbT2.trans (hc11.mono hbT2.size)
          have hv11 := hv.below hb11
          go_wp2_with fail
          refine (works4_any _ hv11).mono ?_
          rintro e w12 ⟨rfl, hc12⟩
          have hb12 := hb11.trans (hc12.mono hb11.size)
          have hv12 := hv.below hb12
          go_wp2_with fail
          go_ret
          exact ⟨rfl, hb12⟩
end Go.Proofs.YtgaacbmihcbedaaDoor
