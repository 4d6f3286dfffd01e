/- The walk of the law VariantBack (chapter 24). -/
import Derived.Test.YtmhciidliicheaaDoorSrc24
import Derived.OpenShut
namespace Go.Proofs.YtmhciidliicheaaDoor
open Go.RowKit Go.Lib
set_option linter.unusedVariables false

theorem parse_word24 : ∀ f : Int, f = 1 ∨ f = 2 ∨ f = 3 → P24.parse (P24.word f) = (f, 0) ∧ 0 < (P24.word f).length := by
  intro f hf
  rcases hf with rfl | rfl | rfl <;> decide +kernel
theorem parse_back24 (s : List UInt8) : ((P24.parse s).2 = 0 ∧ P24.word (P24.parse s).1 = s) ∨ P24.parse s = (0, 5) := by
  unfold P24.parse
  by_cases h1 : s = P24.word 1
  · rw [if_pos h1]; exact .inl ⟨rfl, h1.symm⟩
  · rw [if_neg h1]
    by_cases h2 : s = P24.word 2
    · rw [if_pos h2]; exact .inl ⟨rfl, h2.symm⟩
    · rw [if_neg h2]
      by_cases h3 : s = P24.word 3
      · rw [if_pos h3]; exact .inl ⟨rfl, h3.symm⟩
      · rw [if_neg h3]; exact .inr rfl
theorem out24 {k : Int} (h : k < 1 ∨ 4 ≤ k) : P24.isForm k = false ∧ P24.word k = [] := by
  have h1 := row_out h
  refine ⟨h1.2, ?_⟩
  unfold P24.word
  rw [if_neg (by omega), if_neg (by omega), if_neg (by omega)]
set_option maxRecDepth 100000 in
set_option maxHeartbeats 16000000 in
theorem walkVariantBack (n : Int) (s : ByteArray) (far : Int) (w : World) (hn : 0 ≤ n ∧ n ≤ 255) (hs : s.size ≤ maxLen) (hf : 0 ≤ far ∧ far ≤ 4294967295) (hv : Vars24 w) :
    Calls Tryd.prog 8 #[.int .u8 n, .string s, .int .u32 far] w fun e w' => e = .returned (.bool true) ∧ Below w.heap.size w w' := by
  unfold maxLen at hs
  have hsi : (s.size : Int) ≤ 9223372036854775807 := by omega
  have HV := Lib.hid hv
  clear hv hs
  have cW : Hid (∀ W, Below w.heap.size w W → Calls Tryd.prog 28 #[] W fun e w' => e = .returned (.bool true) ∧ Below W.heap.size W w') := Lib.hid fun W h => works24_any W (HV.out.below h)
  have hb0 := Below.refl w.heap.size w
  by_cases h1 : 100 < s.size
  · have h1i : (100 : Int) < (s.size : Int) := by omega
    go_enter Tryd.func8, Tryd.ntmps8
    go_wp2_with fail
    refine (cW.out _ hb0).mono ?_
    rintro e wE ⟨rfl, hc⟩
    have hb9 := hb0.trans (hc.mono hb0.size)
    go_wp2_with fail
    go_ret
    exact ⟨rfl, hb9⟩
  · have h1i : ¬ (100 : Int) < (s.size : Int) := by omega
    have hM : n.tmod 3 = n % 3 := Int.tmod_eq_emod_of_nonneg hn.1
    have hMb : 0 ≤ n % 3 ∧ n % 3 ≤ 2 := by omega
    rw [← hM] at hMb
    clear hM
    obtain ⟨M, hMM⟩ : ∃ M, n.tmod 3 = M := ⟨_, rfl⟩
    rw [hMM] at hMb
    have hpw := parse_word24 (1 + M) (by omega)
    have cF : Hid (∀ W, Below w.heap.size w W → Calls Tryd.prog 29 #[.int .i64 (1 + M)] W fun e w' => e = .returned (.string (str (P24.word (1 + M)))) ∧ Below W.heap.size W w') := Lib.hid fun W h => word_any (1 + M) W (HV.out.below h)
    have cP : Hid (∀ W, Below w.heap.size w W → Calls Tryd.prog 30 #[.string (str (P24.word (1 + M)))] W fun e w' => e = .returned (.tuple #[.int .i64 (1 + M), .int .i64 0]) ∧ Below W.heap.size W w') := Lib.hid fun W h => by
      have q := parse24_any (str (P24.word (1 + M))) W (HV.out.below h)
      rw [show P4.bl (str (P24.word (1 + M))) = P24.word (1 + M) from str_data _, hpw.1] at q
      exact q
    have te := str_ne hpw.2
    have te1 : (str (P24.word (1 + M))).toList.isEmpty = false := te.1
    have te2 : ¬ (str (P24.word (1 + M))).toList = [] := te.2
    have cS : Hid (∀ W, Below w.heap.size w W → Calls Tryd.prog 30 #[.string s] W fun e w' => e = .returned (.tuple #[.int .i64 (P24.parse (P4.bl s)).1, .int .i64 (P24.parse (P4.bl s)).2]) ∧ Below W.heap.size W w') := Lib.hid fun W h => parse24_any s W (HV.out.below h)
    have hpb := parse_back24 (P4.bl s)
    have cO : Hid (P24.word (P24.parse (P4.bl s)).1 = P4.bl s → ∀ W, Below w.heap.size w W → Calls Tryd.prog 29 #[.int .i64 (P24.parse (P4.bl s)).1] W fun e w' => e = .returned (.string s) ∧ Below W.heap.size W w') := Lib.hid fun he W h => by
      have q := word_any (P24.parse (P4.bl s)).1 W (HV.out.below h)
      rw [he, str_bl] at q
      exact q
    obtain ⟨q1, hq1⟩ : ∃ q, (P24.parse (P4.bl s)).1 = q := ⟨_, rfl⟩
    obtain ⟨q2, hq2⟩ : ∃ q, (P24.parse (P4.bl s)).2 = q := ⟨_, rfl⟩
    have hq : (q2 = 0 ∧ P24.word q1 = P4.bl s) ∨ (q1 = 0 ∧ q2 = 5) := by
      rcases hpb with ⟨a, b⟩ | h
      · rw [hq2] at a; rw [hq1] at b; exact .inl ⟨a, b⟩
      · rw [h] at hq1 hq2; exact .inr ⟨hq1.symm, hq2.symm⟩
    rw [hq1, hq2] at cS
    rw [hq1] at cO
    clear hpb hq1 hq2 te hpw
    generalize str (P24.word (1 + M)) = SW at *
    have cSrc : Hid (∀ W, Calls Tryd.prog 26 #[.agg #[.bool true, .bool true, .bool true, .bool true], .int .i64 1] W fun e w' => (∃ s : SV, P24.PartOf s true true true true 1 ∧ e = .returned (.agg s.agg) ∧ SrcIn w' s) ∧ Below W.heap.size W w') := Lib.hid fun W => source24_any true true true true 1 W (by decide)
    have cK : Hid (∀ k : Int, (k < 1 ∨ 4 ≤ k) → ∀ W, Below w.heap.size w W → Calls Tryd.prog 29 #[.int .i64 k] W fun e w' => e = .returned (.string ⟨#[]⟩) ∧ Below W.heap.size W w') := Lib.hid fun k hk W h => by
      have q := word_any k W (HV.out.below h)
      rw [(out24 hk).2] at q
      exact q
    have cC : Hid (∀ k : Int, (k < 1 ∨ 4 ≤ k) → ∀ (s : SV) W, P24.PartOf s true true true true 1 → SrcIn W s → Below w.heap.size w W → Calls Tryd.prog 27 #[.agg s.agg, .int .i64 k] W fun e w' => e = .returned (.tuple #[.agg #[.int .i64 0, .int .i64 0, .int .i64 0], .int .i64 2]) ∧ Below W.heap.size W w') := Lib.hid fun k hk s W hp hS h => by
      have q := vcheck_any s k W hS (P24.part_small hp (by decide)) (HV.out.below h)
      rw [check_out (out24 hk).1] at q
      exact q
    have hnp : ∀ (W : World) (a b c : Int), (binOp .neq 65 (.agg #[.int .i64 a, .int .i64 b, .int .i64 c]) (.agg #[.int .i64 a, .int .i64 b, .int .i64 c])).run Tryd.prog W = .ok (.bool false) W := fun W a b c => by rw [neq_place]; simp
    obtain ⟨M0, M1⟩ := hMb
    obtain ⟨n0, n1⟩ := hn
    obtain ⟨f0, f1⟩ := hf
    clear h1
    go_enter Tryd.func8, Tryd.ntmps8
    go_wp2_with fail
    refine (cF.out _ hb0).mono ?_
    rintro e w1 ⟨rfl, hb1⟩
    clear hb0 cF
    go_wp2_with fail
    refine (cP.out _ hb1).mono ?_
    rintro e w2 ⟨rfl, hc⟩
    have hb2 := hb1.trans (hc.mono hb1.size)
    clear hb1 hc cP
    go_wp2_with fail
    refine (cS.out _ hb2).mono ?_
    rintro e w3 ⟨rfl, hc⟩
    have hb3 := hb2.trans (hc.mono hb2.size)
    clear hb2 hc cS te1 te2
    rcases hq with ⟨rfl, he⟩ | ⟨rfl, rfl⟩
    · have CO := Lib.hid (cO.out he)
      clear cO he
      go_wp2_with fail
      refine (CO.out _ hb3).mono ?_
      rintro e w4 ⟨rfl, hc⟩
      have hb4 := hb3.trans (hc.mono hb3.size)
      clear hb3 hc CO
      have hE := Blk.new w4 3 #[.int .i64 (-far), .int .i64 (4 + far)]
      have hbE := hb4.alloc hb4.size (.cells #[.int .i64 (-far), .int .i64 (4 + far)] 3)
      clear hb4
      go_wp2_with fail
      generalize w4.heap.size = GA at *
      generalize w4.alloc (.cells #[.int .i64 (-far), .int .i64 (4 + far)] 3) = W0 at *
      go_loopw [76] (fun i wr => ∃ k : Nat, k ≤ 2 ∧ i = .int .i64 (k : Int) ∧ Blk wr GA 3 #[.int .i64 (-far), .int .i64 (4 + far)] ∧ Below w.heap.size w wr) (fun i _ => 2 - (intOf i).toNat)
      case atStart => exact ⟨0, by omega, rfl, hE, hbE⟩
      case round =>
        clear hE hbE
        obtain ⟨k, hk, rfl, hE, hb⟩ := hrel
        by_cases hlt : k < 2
        · obtain ⟨f, hf, hfo⟩ : ∃ f : Int, wr.cell? ⟨GA, k, none⟩ = some (.int .i64 f) ∧ (f < 1 ∨ 4 ≤ f) := by
            have hk2 : k = 0 ∨ k = 1 := by omega
            rcases hk2 with rfl | rfl
            · exact ⟨_, (hE.cell 0).trans rfl, .inl (by omega)⟩
            · exact ⟨_, (hE.cell 1).trans rfl, .inr (by omega)⟩
          have hki : (k : Int) < 2 := by omega
          have HFO := Lib.hid hfo
          clear hfo
          go_wp2_with fail
          refine (cSrc.out _).mono ?_
          rintro e W4 ⟨⟨sv, hP, rfl, hS⟩, hc⟩
          have hb4 := hb.trans (hc.mono hb.size)
          have hE4 := hE.below hc hE.lt
          have CC := Lib.hid (cC.out f HFO.out sv W4 hP hS hb4)
          clear hb hE hc hP hS hf
          go_wp2_with fail
          refine CC.out.mono ?_
          rintro e W5 ⟨rfl, hc⟩
          have hb5 := (hb4.trans (hc.mono hb4.size)).alloc (Nat.le_trans hb4.size hc.size) (.cells #[.int .i64 0, .int .i64 0, .int .i64 0] 65)
          have hE5 := (hE4.below hc hE4.lt).alloc (.cells #[.int .i64 0, .int .i64 0, .int .i64 0] 65)
          have hP5 := Blk.new W5 65 #[.int .i64 0, .int .i64 0, .int .i64 0]
          clear hb4 hE4 hc CC
          go_wp2_with fail
          refine (cK.out f HFO.out _ hb5).mono ?_
          rintro e W6 ⟨rfl, hc⟩
          have hb6 := hb5.trans (hc.mono hb5.size)
          have hE6 := hE5.below hc hE5.lt
          have hP6 := hP5.below hc hP5.lt
          clear hb5 hE5 hP5 hc
          have p0 := (hP6.cell 0).trans rfl
          have p1 := (hP6.cell 1).trans rfl
          have p2 := (hP6.cell 2).trans rfl
          go_wp2_with fail
          go_roundw
          case rel => exact ⟨k + 1, by omega, by go_num, hE6, hb6⟩
          case measure => simp [intOf]; omega
        · obtain rfl : k = 2 := by omega
          clear hE
          go_wp2_with fail
          refine (cW.out _ hb).mono ?_
          rintro e W7 ⟨rfl, hc⟩
          have hb7 := hb.trans (hc.mono hb.size)
          clear hb hc
          go_wp2_with fail
          go_ret
          exact ⟨rfl, hb7⟩
    · clear cO
      have hE := Blk.new w3 3 #[.int .i64 (-far), .int .i64 (4 + far)]
      have hbE := hb3.alloc hb3.size (.cells #[.int .i64 (-far), .int .i64 (4 + far)] 3)
      clear hb3
      go_wp2_with fail
      generalize w3.heap.size = GA at *
      generalize w3.alloc (.cells #[.int .i64 (-far), .int .i64 (4 + far)] 3) = W0 at *
      go_loopw [76] (fun i wr => ∃ k : Nat, k ≤ 2 ∧ i = .int .i64 (k : Int) ∧ Blk wr GA 3 #[.int .i64 (-far), .int .i64 (4 + far)] ∧ Below w.heap.size w wr) (fun i _ => 2 - (intOf i).toNat)
      case atStart => exact ⟨0, by omega, rfl, hE, hbE⟩
      case round =>
        clear hE hbE
        obtain ⟨k, hk, rfl, hE, hb⟩ := hrel
        by_cases hlt : k < 2
        · obtain ⟨f, hf, hfo⟩ : ∃ f : Int, wr.cell? ⟨GA, k, none⟩ = some (.int .i64 f) ∧ (f < 1 ∨ 4 ≤ f) := by
            have hk2 : k = 0 ∨ k = 1 := by omega
            rcases hk2 with rfl | rfl
            · exact ⟨_, (hE.cell 0).trans rfl, .inl (by omega)⟩
            · exact ⟨_, (hE.cell 1).trans rfl, .inr (by omega)⟩
          have hki : (k : Int) < 2 := by omega
          have HFO := Lib.hid hfo
          clear hfo
          go_wp2_with fail
          refine (cSrc.out _).mono ?_
          rintro e W4 ⟨⟨sv, hP, rfl, hS⟩, hc⟩
          have hb4 := hb.trans (hc.mono hb.size)
          have hE4 := hE.below hc hE.lt
          have CC := Lib.hid (cC.out f HFO.out sv W4 hP hS hb4)
          clear hb hE hc hP hS hf
          go_wp2_with fail
          refine CC.out.mono ?_
          rintro e W5 ⟨rfl, hc⟩
          have hb5 := (hb4.trans (hc.mono hb4.size)).alloc (Nat.le_trans hb4.size hc.size) (.cells #[.int .i64 0, .int .i64 0, .int .i64 0] 65)
          have hE5 := (hE4.below hc hE4.lt).alloc (.cells #[.int .i64 0, .int .i64 0, .int .i64 0] 65)
          have hP5 := Blk.new W5 65 #[.int .i64 0, .int .i64 0, .int .i64 0]
          clear hb4 hE4 hc CC
          go_wp2_with fail
          refine (cK.out f HFO.out _ hb5).mono ?_
          rintro e W6 ⟨rfl, hc⟩
          have hb6 := hb5.trans (hc.mono hb5.size)
          have hE6 := hE5.below hc hE5.lt
          have hP6 := hP5.below hc hP5.lt
          clear hb5 hE5 hP5 hc
          have p0 := (hP6.cell 0).trans rfl
          have p1 := (hP6.cell 1).trans rfl
          have p2 := (hP6.cell 2).trans rfl
          go_wp2_with fail
          go_roundw
          case rel => exact ⟨k + 1, by omega, by go_num, hE6, hb6⟩
          case measure => simp [intOf]; omega
        · obtain rfl : k = 2 := by omega
          clear hE
          go_wp2_with fail
          refine (cW.out _ hb).mono ?_
          rintro e W7 ⟨rfl, hc⟩
          have hb7 := hb.trans (hc.mono hb.size)
          clear hb hc
          go_wp2_with fail
          go_ret
          exact ⟨rfl, hb7⟩
end Go.Proofs.YtmhciidliicheaaDoor
