/- The walk of numeric.Parse (chapter 20). -/
import Derived.Test.YtmhciidliicheaaDoorNum20b
namespace Go.Proofs.YtmhciidliicheaaDoor
open Go.RowKit
set_option linter.unusedVariables false

theorem puint_ok (d : ByteArray) (u : Nat) (w : World) (hd : d.size ≤ 2) (h : Lib.parseUintB 8 (P4.bl d) = .ok u) :
    Calls Tryd.prog 55 #[.string d, .int .i64 10, .int .i64 8] w fun e w' => e = .returned (.tuple #[.int .u64 (u : Int), .nilIface]) ∧ Below w.heap.size w w' := by
  refine (Tryd.strconv_ParseUint_10_at8_ok d (by omega) u h w).mono ?_
  rintro e w' ⟨rfl, hw⟩
  refine ⟨rfl, ?_⟩
  rcases hw with rfl | rfl
  · exact Below.refl _ _
  · exact Lib.bytesWorld_below _ _ _
theorem puint_no (d : ByteArray) (w : World) (hd : d.size ≤ 2) (h : Lib.parseUintB 8 (P4.bl d) = Lib.parseUintB 8 []) (hv : Vars w) :
    Calls Tryd.prog 55 #[.string d, .int .i64 10, .int .i64 8] w fun e w' => (∃ N, e = .returned (.tuple #[.int .u64 0, .iface 188 (.pointer (some ⟨N, 0, none⟩))])) ∧ Below w.heap.size w w' := by
  obtain ⟨tp, p, hs⟩ := hv.syn
  refine (Any.strconv_ParseUint_10_at8_syntax_var Tryd.laysPu14 d (by omega) h tp p w hs).mono ?_
  rintro e w' ⟨N, rfl, _, _, hb⟩
  exact ⟨⟨N, rfl⟩, hb⟩
theorem eq_b (a b : ByteArray) (h : ¬ a = b) : (a.toList == b.toList) = false := by
  rw [beq_eq_false_iff_ne]
  intro q
  rw [ByteArray.toList_eq, ByteArray.toList_eq] at q
  exact h (ByteArray.ext (Array.toList_inj.mp q))
theorem ne_b (a b : ByteArray) (h : ¬ a = b) : (a.toList != b.toList) = true := by rw [bne, eq_b a b h]; rfl
theorem str_ne {l : List UInt8} (h : 0 < l.length) : (str l).toList.isEmpty = false ∧ ¬ (str l).toList = [] := by
  have e : (str l).toList = l := by rw [ByteArray.toList_eq]; rfl
  rw [e]
  cases l with
  | nil => simp at h
  | cons a l => exact ⟨rfl, by simp⟩
theorem s_ne {s : ByteArray} (h : 0 < s.size) : s.toList.isEmpty = false ∧ ¬ s.toList = [] := str_ne (l := P4.bl s) (by rw [P4.bl_len]; exact h)
theorem idx3 (k v : Int) (h : (k = 0 ∧ v = 3600) ∨ (k = 1 ∧ v = 60) ∨ (k = 2 ∧ v = 1)) : ∀ w : World, (Instr.index 111 (.agg #[.int .i64 3600, .int .i64 60, .int .i64 1]) (.int .i64 k)).run Tryd.prog w = .ok (.int .i64 v) w := by
  intro w
  rcases h with ⟨rfl, rfl⟩ | ⟨rfl, rfl⟩ | ⟨rfl, rfl⟩
  · kernel_rfl
  · kernel_rfl
  · kernel_rfl
/-- a part of the string, read -/
theorem part_cases (s : ByteArray) (k : Nat) (j : Nat) (h1 : 1 + 2 * k < s.size) (hj : (j = 3 + 2 * k ∧ 3 + 2 * k ≤ s.size) ∨ (j = s.size ∧ s.size ≤ 3 + 2 * k)) :
    P4.bl (s.extract (1 + 2 * k) j) = ((P4.bl s).drop (1 + 2 * k)).take 2 ∧ (s.extract (1 + 2 * k) j).size ≤ 2 ∧ (P4.bl s).drop (1 + 2 * k) ≠ [] ∧
    ((∃ u : Nat, Lib.parseUintB 8 (P4.bl (s.extract (1 + 2 * k) j)) = .ok u ∧ P20.chunk false (((P4.bl s).drop (1 + 2 * k)).take 2) = some (u : Int) ∧ u ≤ 99) ∨
      (Lib.parseUintB 8 (P4.bl (s.extract (1 + 2 * k) j)) = Lib.parseUintB 8 [] ∧ P20.chunk false (((P4.bl s).drop (1 + 2 * k)).take 2) = none)) := by
  have hl := P4.bl_len s
  have hb := P20.chunk_bl s (1 + 2 * k) j (by omega)
  have hz : (s.extract (1 + 2 * k) j).size = j - (1 + 2 * k) := by rw [ByteArray.size_extract]; omega
  refine ⟨hb, by omega, ?_, ?_⟩
  · intro q
    have := congrArg List.length q
    rw [List.length_drop, List.length_nil] at this
    omega
  · rw [← hb]
    exact P20.uint8_cases _ (by rw [P4.bl_len]; omega)

set_option maxRecDepth 100000 in
set_option maxHeartbeats 8000000 in
theorem nparse_any (s : ByteArray) (w : World) (hs : s.size ≤ 1000000) (hv : Vars w) :
    Calls Tryd.prog 19 #[.string s] w fun e w' => e = .returned (.tuple #[.int .i64 (P20.parse (P4.bl s)).1, .int .i64 (P20.parse (P4.bl s)).2]) ∧ Below w.heap.size w w' := by
  rw [← P20.parse_loose]
  obtain ⟨R, hR⟩ : ∃ R, R = P20.parseB false (P4.bl s) := ⟨_, rfl⟩
  rw [← hR]
  have HR : Hid (P20.fin (P4.bl s) (P20.pv false P20.units 0 ((P4.bl s).drop (1 + 2 * 0))) = R) := Lib.hid hR.symm
  clear hR
  have hsz : (s.size : Int) ≤ 1000000 := by omega
  go_enter Tryd.func19, Tryd.ntmps19
  go_upto_block 0 with (fail)
  go_cut [4] (fun s4 wx => ∃ acc : Int, s4 = .int .i64 acc ∧ 0 ≤ acc ∧ acc ≤ 99 * 3661 ∧ Hid (P20.fin (P4.bl s) (some acc) = R) ∧ Below w.heap.size w wx)
  case first =>
    go_wp2_with fail
    go_loopw [4, 10] (fun s4 i wr => ∃ k acc : Int, (k = 0 ∨ k = 1 ∨ k = 2 ∨ k = 3) ∧ i = .int .i64 k ∧ s4 = .int .i64 acc ∧ 0 ≤ acc ∧ acc ≤ 99 * 3661 ∧ (k = 0 → acc = 0) ∧ (k = 1 → acc ≤ 99 * 3600) ∧ (k = 2 → acc ≤ 99 * 3660) ∧ Hid (P20.fin (P4.bl s) (P20.pv false (P20.units.drop k.toNat) acc ((P4.bl s).drop (1 + 2 * k.toNat))) = R) ∧ Below w.heap.size w wr) (fun _ i _ => 3 - (intOf i).toNat)
    case atStart => exact ⟨0, 0, .inl rfl, rfl, rfl, by omega, by omega, fun _ => rfl, by omega, by omega, HR, Below.refl _ _⟩
    case round =>
      clear HR
      obtain ⟨k, acc, hk, rfl, rfl, ha0, ha1, hk0, hk1, hk2, HR, hb⟩ := hrel
      rcases hk with rfl | rfl | rfl | rfl
      · have hbd : acc ≤ 0 := by have := hk0 rfl; omega
        have hv1 := hv.below hb
        clear hk0 hk1 hk2
        have hix := idx3 0 3600 (by omega)
        by_cases h1 : 1 < s.size
        · have h1i : (1 : Int) < (s.size : Int) := by omega
          obtain ⟨hbl, hD, hne, hcs⟩ := part_cases s 0 ((min 3 (s.size : Int)).toNat) h1 (by omega)
          have HN := Lib.hid hne
          rcases hcs with ⟨u, hu, hc, hu9⟩ | ⟨hu, hc⟩
          · have HG : Hid (P20.fin (P4.bl s) (P20.pv false (P20.units.drop 1) (acc + u * 3600) ((P4.bl s).drop (1 + 2 * 1))) = R) := by
              have q := P20.pv_go false 3600 (P20.units.drop 1) acc _ hne u hc
              rw [List.drop_drop] at q
              exact Lib.hid ((congrArg _ q.symm).trans HR.out)
            have cU : Hid (∀ W, Calls Tryd.prog 55 #[.string (s.extract 1 (min 3 (s.size : Int)).toNat), .int .i64 10, .int .i64 8] W fun e w' => e = .returned (.tuple #[.int .u64 (u : Int), .nilIface]) ∧ Below W.heap.size W w') := fun W => puint_ok _ u W hD hu
            have hui : (u : Int) ≤ 99 := by omega
            clear HR hbl hD hne hu hc hu9 h1 HN
            go_wp2_with fail
            refine (cU.out _).mono ?_
            rintro e w1 ⟨rfl, hc1⟩
            have hb2 := hb.trans (hc1.mono hb.size)
            clear hc1 hb cU
            go_wp2_with fail
            go_roundw
            case rel => exact ⟨1, acc + u * 3600, by omega, by go_num, by go_num, by omega, by omega, by omega, by omega, by omega, HG, hb2⟩
            case measure => simp [intOf]
          · have HG : R = (0, 5) := by
              have q := P20.pv_stop false 3600 (P20.units.drop 1) acc _ hne hc
              exact (HR.out.symm.trans (congrArg _ q)).trans rfl
            have HG' := Lib.hid HG
            have cU : Hid (∀ W, Vars W → Calls Tryd.prog 55 #[.string (s.extract 1 (min 3 (s.size : Int)).toNat), .int .i64 10, .int .i64 8] W fun e w' => (∃ N, e = .returned (.tuple #[.int .u64 0, .iface 188 (.pointer (some ⟨N, 0, none⟩))])) ∧ Below W.heap.size W w') := fun W h => puint_no _ W hD hu h
            clear HR hbl hD hne hu hc h1 HN HG
            go_wp2_with fail
            refine (cU.out _ hv1).mono ?_
            rintro e w1 ⟨⟨N, rfl⟩, hc1⟩
            have hb2 := hb.trans (hc1.mono hb.size)
            clear hc1 hb cU
            go_wp2_with fail
            go_ret2
            exact ⟨by rw [HG'.out]; rfl, hb2⟩
        · have h1i : (s.size : Int) ≤ 1 := by omega
          have HG : Hid (P20.fin (P4.bl s) (some acc) = R) := by
            have q : (P4.bl s).drop (1 + 2 * 0) = [] := List.drop_eq_nil_of_le (by rw [P4.bl_len]; omega)
            have q2 : P20.pv false (P20.units.drop 0) acc ((P4.bl s).drop (1 + 2 * 0)) = some acc := by rw [q]; exact P20.pv_nil _ _ _
            exact Lib.hid ((congrArg _ q2.symm).trans HR.out)
          clear HR h1
          go_wp2_with fail
          go_meet
          exact ⟨acc, rfl, ha0, ha1, HG, hb⟩
      · have hbd : acc ≤ 356400 := by exact hk1 rfl
        have hv1 := hv.below hb
        clear hk0 hk1 hk2
        have hix := idx3 1 60 (by omega)
        by_cases h1 : 3 < s.size
        · have h1i : (3 : Int) < (s.size : Int) := by omega
          obtain ⟨hbl, hD, hne, hcs⟩ := part_cases s 1 ((min 5 (s.size : Int)).toNat) h1 (by omega)
          have HN := Lib.hid hne
          rcases hcs with ⟨u, hu, hc, hu9⟩ | ⟨hu, hc⟩
          · have HG : Hid (P20.fin (P4.bl s) (P20.pv false (P20.units.drop 2) (acc + u * 60) ((P4.bl s).drop (1 + 2 * 2))) = R) := by
              have q := P20.pv_go false 60 (P20.units.drop 2) acc _ hne u hc
              rw [List.drop_drop] at q
              exact Lib.hid ((congrArg _ q.symm).trans HR.out)
            have cU : Hid (∀ W, Calls Tryd.prog 55 #[.string (s.extract 3 (min 5 (s.size : Int)).toNat), .int .i64 10, .int .i64 8] W fun e w' => e = .returned (.tuple #[.int .u64 (u : Int), .nilIface]) ∧ Below W.heap.size W w') := fun W => puint_ok _ u W hD hu
            have hui : (u : Int) ≤ 99 := by omega
            clear HR hbl hD hne hu hc hu9 h1 HN
            go_wp2_with fail
            refine (cU.out _).mono ?_
            rintro e w1 ⟨rfl, hc1⟩
            have hb2 := hb.trans (hc1.mono hb.size)
            clear hc1 hb cU
            go_wp2_with fail
            go_roundw
            case rel => exact ⟨2, acc + u * 60, by omega, by go_num, by go_num, by omega, by omega, by omega, by omega, by omega, HG, hb2⟩
            case measure => simp [intOf]
          · have HG : R = (0, 5) := by
              have q := P20.pv_stop false 60 (P20.units.drop 2) acc _ hne hc
              exact (HR.out.symm.trans (congrArg _ q)).trans rfl
            have HG' := Lib.hid HG
            have cU : Hid (∀ W, Vars W → Calls Tryd.prog 55 #[.string (s.extract 3 (min 5 (s.size : Int)).toNat), .int .i64 10, .int .i64 8] W fun e w' => (∃ N, e = .returned (.tuple #[.int .u64 0, .iface 188 (.pointer (some ⟨N, 0, none⟩))])) ∧ Below W.heap.size W w') := fun W h => puint_no _ W hD hu h
            clear HR hbl hD hne hu hc h1 HN HG
            go_wp2_with fail
            refine (cU.out _ hv1).mono ?_
            rintro e w1 ⟨⟨N, rfl⟩, hc1⟩
            have hb2 := hb.trans (hc1.mono hb.size)
            clear hc1 hb cU
            go_wp2_with fail
            go_ret2
            exact ⟨by rw [HG'.out]; rfl, hb2⟩
        · have h1i : (s.size : Int) ≤ 3 := by omega
          have HG : Hid (P20.fin (P4.bl s) (some acc) = R) := by
            have q : (P4.bl s).drop (1 + 2 * 1) = [] := List.drop_eq_nil_of_le (by rw [P4.bl_len]; omega)
            have q2 : P20.pv false (P20.units.drop 1) acc ((P4.bl s).drop (1 + 2 * 1)) = some acc := by rw [q]; exact P20.pv_nil _ _ _
            exact Lib.hid ((congrArg _ q2.symm).trans HR.out)
          clear HR h1
          go_wp2_with fail
          go_meet
          exact ⟨acc, rfl, ha0, ha1, HG, hb⟩
      · have hbd : acc ≤ 362340 := by exact hk2 rfl
        have hv1 := hv.below hb
        clear hk0 hk1 hk2
        have hix := idx3 2 1 (by omega)
        by_cases h1 : 5 < s.size
        · have h1i : (5 : Int) < (s.size : Int) := by omega
          obtain ⟨hbl, hD, hne, hcs⟩ := part_cases s 2 ((min 7 (s.size : Int)).toNat) h1 (by omega)
          have HN := Lib.hid hne
          rcases hcs with ⟨u, hu, hc, hu9⟩ | ⟨hu, hc⟩
          · have HG : Hid (P20.fin (P4.bl s) (P20.pv false (P20.units.drop 3) (acc + u * 1) ((P4.bl s).drop (1 + 2 * 3))) = R) := by
              have q := P20.pv_go false 1 (P20.units.drop 3) acc _ hne u hc
              rw [List.drop_drop] at q
              exact Lib.hid ((congrArg _ q.symm).trans HR.out)
            have cU : Hid (∀ W, Calls Tryd.prog 55 #[.string (s.extract 5 (min 7 (s.size : Int)).toNat), .int .i64 10, .int .i64 8] W fun e w' => e = .returned (.tuple #[.int .u64 (u : Int), .nilIface]) ∧ Below W.heap.size W w') := fun W => puint_ok _ u W hD hu
            have hui : (u : Int) ≤ 99 := by omega
            clear HR hbl hD hne hu hc hu9 h1 HN
            go_wp2_with fail
            refine (cU.out _).mono ?_
            rintro e w1 ⟨rfl, hc1⟩
            have hb2 := hb.trans (hc1.mono hb.size)
            clear hc1 hb cU
            go_wp2_with fail
            go_roundw
            case rel => exact ⟨3, acc + u * 1, by omega, by go_num, by go_num, by omega, by omega, by omega, by omega, by omega, HG, hb2⟩
            case measure => simp [intOf]
          · have HG : R = (0, 5) := by
              have q := P20.pv_stop false 1 (P20.units.drop 3) acc _ hne hc
              exact (HR.out.symm.trans (congrArg _ q)).trans rfl
            have HG' := Lib.hid HG
            have cU : Hid (∀ W, Vars W → Calls Tryd.prog 55 #[.string (s.extract 5 (min 7 (s.size : Int)).toNat), .int .i64 10, .int .i64 8] W fun e w' => (∃ N, e = .returned (.tuple #[.int .u64 0, .iface 188 (.pointer (some ⟨N, 0, none⟩))])) ∧ Below W.heap.size W w') := fun W h => puint_no _ W hD hu h
            clear HR hbl hD hne hu hc h1 HN HG
            go_wp2_with fail
            refine (cU.out _ hv1).mono ?_
            rintro e w1 ⟨⟨N, rfl⟩, hc1⟩
            have hb2 := hb.trans (hc1.mono hb.size)
            clear hc1 hb cU
            go_wp2_with fail
            go_ret2
            exact ⟨by rw [HG'.out]; rfl, hb2⟩
        · have h1i : (s.size : Int) ≤ 5 := by omega
          have HG : Hid (P20.fin (P4.bl s) (some acc) = R) := by
            have q : (P4.bl s).drop (1 + 2 * 2) = [] := List.drop_eq_nil_of_le (by rw [P4.bl_len]; omega)
            have q2 : P20.pv false (P20.units.drop 2) acc ((P4.bl s).drop (1 + 2 * 2)) = some acc := by rw [q]; exact P20.pv_nil _ _ _
            exact Lib.hid ((congrArg _ q2.symm).trans HR.out)
          clear HR h1
          go_wp2_with fail
          go_meet
          exact ⟨acc, rfl, ha0, ha1, HG, hb⟩
      · have HG : Hid (P20.fin (P4.bl s) (some acc) = R) := Lib.hid HR.out
        clear HR hk0 hk1 hk2
        go_wp2_with fail
        go_meet
        exact ⟨acc, rfl, ha0, ha1, HG, hb⟩
  case rest =>
    obtain ⟨acc, rfl, ha0, ha1, HG, hb⟩ := hcut
    clear HR
    have cH := fun W => Tryd.strings_HasPrefix s ⟨#[45]⟩ W
    by_cases hz : s.size = 0
    · have hP : R = (0, 5) := by
        have : P4.bl s = [] := List.length_eq_zero_iff.mp (by rw [P4.bl_len]; exact hz)
        rw [← HG.out, this]; exact P20.fin_empty _
      have hnil : s.toList = [] := by rw [ByteArray.toList_eq]; exact List.length_eq_zero_iff.mp (by have := P4.bl_len s; rw [← this] at hz; exact hz)
      have HP := Lib.hid hP
      have CH := Lib.hid cH
      clear hP HG hz cH
      generalize Lib.hasPrefix s.data.toList (⟨#[45]⟩ : ByteArray).data.toList = B at CH
      cases B with
      | true =>
        go_wp2_with fail
        refine (CH.out _).mono ?_
        rintro e w1 ⟨rfl, rfl⟩
        go_wp2_with fail
        go_ret2
        exact ⟨by rw [HP.out]; rfl, hb⟩
      | false =>
        go_wp2_with fail
        refine (CH.out _).mono ?_
        rintro e w1 ⟨rfl, rfl⟩
        go_wp2_with fail
        go_ret2
        exact ⟨by rw [HP.out]; rfl, hb⟩
    · obtain ⟨n1, n2⟩ := s_ne (s := s) (by omega)
      have hne : P4.bl s ≠ [] := fun q => hz (by rw [← P4.bl_len, q]; rfl)
      have hm := fun q => P20.sgn_minus (s := P4.bl s) acc q
      have hp := fun q => P20.sgn_plus (s := P4.bl s) acc q
      have CH := Lib.hid cH
      clear hz cH
      generalize hB : Lib.hasPrefix s.data.toList (⟨#[45]⟩ : ByteArray).data.toList = B at CH
      cases B with
      | true =>
        have hy := hm hB
        have cT : Hid (∀ W, Calls Tryd.prog 40 #[.int .i64 (-acc)] W fun e w' => e = .returned (.string (str (P20.text (-acc)))) ∧ Below W.heap.size W w') := fun W => ntext_any (-acc) W (by omega) (by omega)
        by_cases he : P20.text (-acc) = P4.bl s
        · have HP := Lib.hid (HG.out.symm.trans (P20.fin_eq hne hy he))
          have hse : str (P20.text (-acc)) = s := by rw [he]; rfl
          rw [hse] at cT
          clear hm hp hne HG hB hy he hse
          go_wp2_with fail
          refine (CH.out _).mono ?_
          rintro e w1 ⟨rfl, rfl⟩
          go_wp2_with fail
          refine (cT.out _).mono ?_
          rintro e w2 ⟨rfl, hc2⟩
          have hb2 := hb.trans (hc2.mono hb.size)
          clear hc2 hb cT CH
          go_wp2_with fail
          go_ret2
          exact ⟨by rw [HP.out]; rfl, hb2⟩
        · have HP := Lib.hid (HG.out.symm.trans (P20.fin_ne hy he))
          have hse : ¬ str (P20.text (-acc)) = s := fun q => he (by rw [← q]; rfl)
          have e1 := eq_b _ _ hse
          have e2 := ne_b _ _ hse
          clear hm hp hne HG hB hy he hse
          generalize str (P20.text (-acc)) = T at cT e1 e2
          go_wp2_with fail
          refine (CH.out _).mono ?_
          rintro e w1 ⟨rfl, rfl⟩
          go_wp2_with fail
          refine (cT.out _).mono ?_
          rintro e w2 ⟨rfl, hc2⟩
          have hb2 := hb.trans (hc2.mono hb.size)
          clear hc2 hb cT CH
          go_wp2_with fail
          go_ret2
          exact ⟨by rw [HP.out]; rfl, hb2⟩
      | false =>
        have hy := hp hB
        have cT : Hid (∀ W, Calls Tryd.prog 40 #[.int .i64 acc] W fun e w' => e = .returned (.string (str (P20.text acc))) ∧ Below W.heap.size W w') := fun W => ntext_any acc W (by omega) (by omega)
        by_cases he : P20.text acc = P4.bl s
        · have HP := Lib.hid (HG.out.symm.trans (P20.fin_eq hne hy he))
          have hse : str (P20.text acc) = s := by rw [he]; rfl
          rw [hse] at cT
          clear hm hp hne HG hB hy he hse
          go_wp2_with fail
          refine (CH.out _).mono ?_
          rintro e w1 ⟨rfl, rfl⟩
          go_wp2_with fail
          refine (cT.out _).mono ?_
          rintro e w2 ⟨rfl, hc2⟩
          have hb2 := hb.trans (hc2.mono hb.size)
          clear hc2 hb cT CH
          go_wp2_with fail
          go_ret2
          exact ⟨by rw [HP.out]; rfl, hb2⟩
        · have HP := Lib.hid (HG.out.symm.trans (P20.fin_ne hy he))
          have hse : ¬ str (P20.text acc) = s := fun q => he (by rw [← q]; rfl)
          have e1 := eq_b _ _ hse
          have e2 := ne_b _ _ hse
          clear hm hp hne HG hB hy he hse
          generalize str (P20.text acc) = T at cT e1 e2
          go_wp2_with fail
          refine (CH.out _).mono ?_
          rintro e w1 ⟨rfl, rfl⟩
          go_wp2_with fail
          refine (cT.out _).mono ?_
          rintro e w2 ⟨rfl, hc2⟩
          have hb2 := hb.trans (hc2.mono hb.size)
          clear hc2 hb cT CH
          go_wp2_with fail
          go_ret2
          exact ⟨by rw [HP.out]; rfl, hb2⟩
end Go.Proofs.YtmhciidliicheaaDoor
