/- The walk of the law ClockLetters (chapter 6). -/
import Derived.Test.YtoabengifbokdaaDoorLaws6b
import Derived.Deep.DeepCutAuto
namespace Go.Proofs.YtoabengifbokdaaDoor
open Go.RowKit
set_option linter.unusedVariables false

/-- string([]byte{c}) -/
theorem conv_byte (c : Int) (B : Nat) (W : World) (h : W.cell? ⟨B, 0, none⟩ = some (.int .u8 c)) :
    (convert 40 9 (.slice (some ⟨B, 0, none⟩) 1 1)).run Tryd.prog W = .ok (.string (ByteArray.empty.push (UInt8.ofNat c.toNat))) W := by
  rw [run_convert_bytes_string W _ _ 5 _ _ _ Tryd.underlying40 Tryd.underlying5 Tryd.underlying9]
  have := run_bytesToString (P := Tryd.prog) W ⟨B, 0, none⟩ 1 1 [c] (by simp [go_sem, h])
  simpa using this
def arrS : Array Value := #[.string ⟨#[119]⟩, .int .i64 0, .string ⟨#[115]⟩, .int .i64 1, .string ⟨#[117]⟩, .int .i64 2, .string ⟨#[103]⟩, .int .i64 2, .string ⟨#[122]⟩, .int .i64 2]
theorem arrS_at (k : Nat) (hk : k < 5) : ∃ c : UInt8, arrS[k * 2]? = some (.string (str [c])) ∧ arrS[k * 2 + 1]? = some (.int .i64 (P6.basL k)) ∧ (c.toNat : Int) = P6.letL k := by
  match k, hk with
  | 0, _ => exact ⟨119, rfl, rfl, rfl⟩
  | 1, _ => exact ⟨115, rfl, rfl, rfl⟩
  | 2, _ => exact ⟨117, rfl, rfl, rfl⟩
  | 3, _ => exact ⟨103, rfl, rfl, rfl⟩
  | 4, _ => exact ⟨122, rfl, rfl, rfl⟩
theorem byte_back (c : Int) (h0 : 0 ≤ c) (h1 : c ≤ 255) : ((UInt8.ofNat c.toNat).toNat : Int) = c := by
  rw [UInt8.toNat_ofNat']; omega
theorem str_one (c : UInt8) : ∀ h, (((str [c])[0]'h).toNat : Int) = (c.toNat : Int) := fun _ => rfl
set_option maxRecDepth 100000 in
set_option maxHeartbeats 4000000 in
theorem walkClockLetters (m c : Int) (w : World) (hm : (Lit.int .i32 m).wf = true) (hc : (Lit.int .u8 c).wf = true) (hv : Vars w) :
    Calls Tryd.prog 7 #[.int .i32 m, .int .u8 c] w fun e w' => e = .returned (.bool true) ∧ Below w.heap.size w w' := by
  have hm2 := bounds_i32 hm
  have hc2 := bounds_u8 hc
  clear hm hc
  obtain ⟨X, hX⟩ : ∃ X, m.tmod 604800 = X := ⟨_, rfl⟩
  have x0 := tmod_bd m hm2.1 hm2.2
  rw [hX] at x0
  obtain ⟨hx0, hx1⟩ := x0
  have cP : Hid (∀ W, Vars W → Calls Tryd.prog 17 #[.int .i64 X] W fun e w' => e = .returned (.tuple #[.string (str (P4.print X).1), .int .i64 0]) ∧ Below W.heap.size W w') := fun W h => by
    have q := print_any X W (by omega) (by omega) h; rw [(P4.parse_print X hx0 hx1).1] at q; exact q
  have hl := (P6.print_len X hx0 hx1).2
  have hl2 : (str (P4.print X).1).size ≤ 21 := hl
  have cR : Hid (∀ W, Vars W → Calls Tryd.prog 18 #[.string (str (P4.print X).1), .int .i64 X, .int .i64 0] W fun e w' => e = .returned (.bool true) ∧ Below W.heap.size W w') := fun W h => reads_true _ X 0 W (by rw [str_size]; omega) (P6.parse_plain X hx0 hx1) h
  have cL : Hid (∀ (d : UInt8) (B : Int) W, Vars W → P6.base (d.toNat : Int) = B → 0 ≤ B → Calls Tryd.prog 18 #[.string (str ((P4.print X).1 ++ [d])), .int .i64 X, .int .i64 B] W fun e w' => e = .returned (.bool true) ∧ Below W.heap.size W w') := fun d B W h hB h0 =>
    reads_true _ X B W (by rw [str_size, List.length_append]; simp only [List.length_cons, List.length_nil]; omega) (P6.parse_yes _ d X B hB h0 (P4.parse_print X hx0 hx1).2) h
  have cT : Hid (∀ (d : UInt8) W, Vars W → 0 ≤ P6.base (d.toNat : Int) → Calls Tryd.prog 19 #[.string (str ((P4.print X).1 ++ [d] ++ [d])), .int .i64 5] W fun e w' => e = .returned (.bool true) ∧ Below W.heap.size W w') := fun d W h h0 =>
    fails_true _ 5 W (by rw [str_size, List.length_append, List.length_append]; simp only [List.length_cons, List.length_nil]; omega) (P6.letter_twice X hx0 hx1 d d h0) h
  have cN : Hid (∀ (d : UInt8) W, Vars W → P6.base (d.toNat : Int) < 0 → Calls Tryd.prog 10 #[.string (str ((P4.print X).1 ++ [d]))] W fun e w' => e = .returned (.tuple #[.agg #[.int .i64 0, .int .i64 0], .int .i64 5]) ∧ Below W.heap.size W w') := fun d W h h0 => by
    have q := cparse_any (str ((P4.print X).1 ++ [d])) W (by rw [str_size, List.length_append]; simp only [List.length_cons, List.length_nil]; omega) h; rw [P6.letter_none X hx0 hx1 d h0] at q; exact q
  generalize (P4.print X).1 = S at cP cR cL cT cN hl2
  clear hl
  obtain ⟨hm0, hm1⟩ := hm2
  obtain ⟨hcc0, hcc1⟩ := hc2
  go_enter Tryd.func7, Tryd.ntmps7
  go_wp2_with fail
  refine (cP.out _ hv).mono ?_
  rintro e w1 ⟨rfl, hc1⟩
  have hb2 := hc1
  have hv3 := hv.below hb2
  go_wp2_with fail
  refine (cR.out _ hv3).mono ?_
  clear hv3
  rintro e w2 ⟨rfl, hc4⟩
  have hb5 := hb2.trans (hc4.mono hb2.size)
  clear hb2 hc4
  have hT := Blk.new w2 37 arrS
  have hb := hb5.alloc hb5.size (.cells arrS 37)
  clear hb5
  go_wp2_with fail
  go_loopw [35] (fun i wz => ∃ k : Nat, k ≤ 5 ∧ i = .int .i64 k ∧ Hid (∀ j, j < k → P6.letL j ≠ c) ∧ Blk wz w2.heap.size 37 arrS ∧ Below w.heap.size w wz) (fun i _ => 5 - (intOf i).toNat)
  case atStart => exact ⟨0, by omega, rfl, fun j hj => absurd hj (Nat.not_lt_zero _), hT, hb⟩
  case round =>
    clear hT hb
    obtain ⟨k, hk, rfl, HN, hT, hb⟩ := hrel
    by_cases hlt : k < 5
    · obtain ⟨d, a0, a1, hd⟩ := arrS_at k hlt
      have e0 : wr.cell? ⟨w2.heap.size, k * 2, none⟩ = some (.string (str [d])) := (hT.cell _).trans a0
      have e1 : wr.cell? ⟨w2.heap.size, k * 2 + 1, none⟩ = some (.int .i64 (P6.basL k)) := (hT.cell _).trans a1
      have hB : P6.base (d.toNat : Int) = P6.basL k := by rw [hd]; exact P6.base_letL k hlt
      have hB0 := (P6.basL_bd k).1
      have hs1 : (str [d]).size ≤ 1 := Nat.le_refl 1
      have hs0 : 0 < (str [d]).size := Nat.zero_lt_one
      have hix := str_one d
      have hE1 : str S ++ str [d] = str (S ++ [d]) := str_append S [d]
      have hE2 : str (S ++ [d]) ++ str [d] = str (S ++ [d] ++ [d]) := str_append _ _
      have hE3 : (str (S ++ [d])).size ≤ 22 := by rw [← hE1, ByteArray.size_append]; omega
      have cL1 : Hid (∀ W, Vars W → Calls Tryd.prog 18 #[.string (str (S ++ [d])), .int .i64 X, .int .i64 (P6.basL k)] W fun e w' => e = .returned (.bool true) ∧ Below W.heap.size W w') := fun W h => cL.out d _ W h hB hB0
      have cT1 : Hid (∀ W, Vars W → Calls Tryd.prog 19 #[.string (str (S ++ [d] ++ [d])), .int .i64 5] W fun e w' => e = .returned (.bool true) ∧ Below W.heap.size W w') := fun W h => cT.out d W h (by omega)
      have hki : (k : Int) < 5 := by omega
      generalize P6.basL k = BB at e1 cL1 hB0
      generalize str [d] = G at e0 hs1 hs0 hix hE1 hE2
      generalize str (S ++ [d] ++ [d]) = S2 at hE2 cT1
      generalize str (S ++ [d]) = S1 at hE1 hE2 hE3 cL1
      clear a0 a1 hB cL cT cN cP cR
      by_cases hce : c = (d.toNat : Int)
      · have hq : (c == (d.toNat : Int)) = true := by rw [beq_iff_eq]; exact hce
        clear hce hd
        generalize (d.toNat : Int) = D at hq hix
        have hbr1 := hb.alloc hb.size (.cells #[.string G, .int .i64 BB] 37)
        have hBr2 := hT.alloc (.cells #[.string G, .int .i64 BB] 37)
        clear hT
        have hBr3 := Blk.new wr 37 #[.string G, .int .i64 BB]
        clear hb
        have hvr4 := hv.below hbr1
        go_wp2_with fail
        refine (cL1.out _ hvr4).mono ?_
        clear hvr4
        rintro e wr1 ⟨rfl, hcr5⟩
        have hBr6 := hBr2.below hcr5 hBr2.lt
        clear hBr2
        have hBr7 := hBr3.below hcr5 hBr3.lt
        clear hBr3
        have hbr8 := hbr1.trans (hcr5.mono hbr1.size)
        clear hbr1 hcr5
        have kr9 := (hBr7.cell 0).trans rfl
        have hvr10 := hv.below hbr8
        go_wp2_with fail
        refine (cT1.out _ hvr10).mono ?_
        clear kr9
        clear hvr10
        rintro e wr2 ⟨rfl, hcr11⟩
        have hBr12 := hBr6.below hcr11 hBr6.lt
        clear hBr6
        have hBr13 := hBr7.below hcr11 hBr7.lt
        clear hBr7
        have hbr14 := hbr8.trans (hcr11.mono hbr8.size)
        clear hbr8 hcr11
        have kr15 := (hBr13.cell 0).trans rfl
        have hvr16 := hv.below hbr14
        go_wp2_with fail
        refine (works6_any _ hvr16).mono ?_
        clear kr15
        clear hvr16
        rintro e wr3 ⟨rfl, hcr17⟩
        have hBr18 := hBr12.below hcr17 hBr12.lt
        clear hBr12
        have hBr19 := hBr13.below hcr17 hBr13.lt
        clear hBr13
        have hbr20 := hbr14.trans (hcr17.mono hbr14.size)
        clear hbr14 hcr17
        go_wp2_with fail
        go_ret
        exact ⟨rfl, hbr20⟩
      · have hq : (c == (d.toNat : Int)) = false := by rw [beq_eq_false_iff_ne]; exact hce
        have HN2 : Hid (∀ j, j < k + 1 → P6.letL j ≠ c) := fun j hj => by
          rcases Nat.lt_succ_iff_lt_or_eq.mp hj with q | q
          · exact HN.out j q
          · rw [q, ← hd]; exact fun h => hce h.symm
        clear hce hd
        generalize (d.toNat : Int) = D at hq hix
        have hbr1 := hb.alloc hb.size (.cells #[.string G, .int .i64 BB] 37)
        have hBr2 := hT.alloc (.cells #[.string G, .int .i64 BB] 37)
        clear hT
        have hBr3 := Blk.new wr 37 #[.string G, .int .i64 BB]
        clear hb
        have hvr4 := hv.below hbr1
        go_wp2_with fail
        refine (cL1.out _ hvr4).mono ?_
        clear hvr4
        rintro e wr1 ⟨rfl, hcr5⟩
        have hBr6 := hBr2.below hcr5 hBr2.lt
        clear hBr2
        have hBr7 := hBr3.below hcr5 hBr3.lt
        clear hBr3
        have hbr8 := hbr1.trans (hcr5.mono hbr1.size)
        clear hbr1 hcr5
        have kr9 := (hBr7.cell 0).trans rfl
        have hvr10 := hv.below hbr8
        go_wp2_with fail
        refine (cT1.out _ hvr10).mono ?_
        clear kr9
        clear hvr10
        rintro e wr2 ⟨rfl, hcr11⟩
        have hBr12 := hBr6.below hcr11 hBr6.lt
        clear hBr6
        have hBr13 := hBr7.below hcr11 hBr7.lt
        clear hBr7
        have hbr14 := hbr8.trans (hcr11.mono hbr8.size)
        clear hbr8 hcr11
        have kr15 := (hBr13.cell 0).trans rfl
        go_wp2_with fail
        go_roundw
        case rel => exact ⟨k + 1, by omega, by go_num, HN2, hBr12, hbr14⟩
        case measure => simp [intOf]; omega
    · obtain rfl : k = 5 := by omega
      have hbn : P6.base ((UInt8.ofNat c.toNat).toNat : Int) < 0 := by rw [byte_back c hcc0 hcc1, P6.base_none HN.out]; decide
      have cN1 : Hid (∀ W, Vars W → Calls Tryd.prog 10 #[.string (str (S ++ [UInt8.ofNat c.toNat]))] W fun e w' => e = .returned (.tuple #[.agg #[.int .i64 0, .int .i64 0], .int .i64 5]) ∧ Below W.heap.size W w') := fun W h => cN.out _ W h hbn
      have hcv := conv_byte c
      have hE : str S ++ ByteArray.empty.push (UInt8.ofNat c.toNat) = str (S ++ [UInt8.ofNat c.toNat]) := str_append S [UInt8.ofNat c.toNat]
      have hsp : (ByteArray.empty.push (UInt8.ofNat c.toNat)).size ≤ 1 := Nat.le_refl 1
      generalize ByteArray.empty.push (UInt8.ofNat c.toNat) = G at hcv hE hsp
      generalize str (S ++ [UInt8.ofNat c.toNat]) = S1 at hE cN1
      clear hbn cL cT cN cP cR hT
      have hbs1 := hb.alloc hb.size (.cells #[.int .u8 c] 5)
      have hBs2 := Blk.new wr 5 #[.int .u8 c]
      clear hb
      have hvs3 := hv.below hbs1
      go_wp2_with fail
      refine (cN1.out _ hvs3).mono ?_
      clear hvs3
      rintro e ws1 ⟨rfl, hcs4⟩
      have hBs5 := hBs2.below hcs4 hBs2.lt
      clear hBs2
      have hbs6 := hbs1.trans (hcs4.mono hbs1.size)
      clear hbs1 hcs4
      have hbs7 := hbs6.alloc hbs6.size (.cells #[.int .i64 0, .int .i64 0] 24)
      have hBs8 := hBs5.alloc (.cells #[.int .i64 0, .int .i64 0] 24)
      clear hBs5
      have hBs9 := Blk.new ws1 24 #[.int .i64 0, .int .i64 0]
      clear hbs6
      have hvs10 := hv.below hbs7
      go_wp2_with fail
      refine (works6_any _ hvs10).mono ?_
      clear hvs10
      rintro e ws2 ⟨rfl, hcs11⟩
      have hBs12 := hBs8.below hcs11 hBs8.lt
      clear hBs8
      have hBs13 := hBs9.below hcs11 hBs9.lt
      clear hBs9
      have hbs14 := hbs7.trans (hcs11.mono hbs7.size)
      clear hbs7 hcs11
      go_wp2_with fail
      go_ret
      exact ⟨rfl, hbs14⟩
end Go.Proofs.YtoabengifbokdaaDoor
