/- The walk of the law OffsetRefuses (chapter 4). -/
import Derived.Test.YtgaacbmihcbedaaDoorLaws4c
import Derived.Test.YtgaacbmihcbedaaDoorPlain4f
namespace Go.Proofs.YtgaacbmihcbedaaDoor
open Go.RowKit
set_option linter.unusedVariables false

-- REFUSES

def arrR (x : Int) : Array Value := #[.int .i64 x, .int .i64 (-x), .int .i64 9223372036854775807, .int .i64 (-9223372036854775808)]
theorem arrR_at (x : Int) (h0 : 604800 ≤ x) (h1 : x ≤ 5000000000) : ∀ k, k < 4 → ∃ y : Int, (arrR x)[k]? = some (.int .i64 y) ∧ (y < -604799 ∨ 604799 < y) ∧ -9223372036854775808 ≤ y ∧ y ≤ 9223372036854775807 := by
  intro k hk
  match k, hk with
  | 0, _ => exact ⟨x, rfl, by omega, by omega, by omega⟩
  | 1, _ => exact ⟨-x, rfl, by omega, by omega, by omega⟩
  | 2, _ => exact ⟨9223372036854775807, rfl, by omega, by omega, by omega⟩
  | 3, _ => exact ⟨-9223372036854775808, rfl, by omega, by omega, by omega⟩
def arrT (l : List (List UInt8)) : Array Value := (l.map fun x => Value.string (str x)).toArray
theorem arrT_at (l : List (List UInt8)) (e : Int) (h : ∀ x ∈ l, P4.parse x = (0, e) ∧ x.length ≤ 100) (n : Nat) (hn : l.length = n) : ∀ k, k < n → ∃ y : List UInt8, (arrT l)[k]? = some (.string (str y)) ∧ P4.parse y = (0, e) ∧ y.length ≤ 100 := by
  intro k hk
  have hk' : k < l.length := by omega
  have hm := List.getElem_mem hk'
  refine ⟨l[k], ?_, h _ hm⟩
  simp [arrT, List.getElem?_eq_getElem hk']
def listF (H : Nat) : List (List UInt8) := [P4.hun H, P4.hun H ++ [58, 48, 48], P4.hun H ++ [58, 53, 57, 58, 53, 57], 45 :: P4.hun H]
theorem listF_bad (H : Nat) (h0 : 168 ≤ H) (h1 : H < 1000) : ∀ x ∈ listF H, P4.parse x = (0, 3) ∧ x.length ≤ 100 := by
  intro x hx
  simp only [listF, List.mem_cons, List.not_mem_nil, or_false] at hx
  rcases hx with rfl | rfl | rfl | rfl
  · exact ⟨P4.far_h H h0 h1, by simp [P4.hun]⟩
  · exact ⟨P4.far_hm H h0 h1, by simp [P4.hun]⟩
  · exact ⟨P4.far_hms H h0 h1, by simp [P4.hun]⟩
  · exact ⟨P4.far_minus H h0 h1, by simp [P4.hun]⟩
def listS (s : List UInt8) : List (List UInt8) := [32 :: s, s ++ [32], 43 :: s, 45 :: 45 :: s, s ++ [58], 58 :: s, s ++ [45], 48 :: 48 :: s]
theorem listS_bad (n : Nat) (h : n ≤ 604799) : ∀ x ∈ listS (P4.showN n), P4.parse x = (0, 5) ∧ x.length ≤ 100 := by
  have hl := show_len n h
  intro x hx
  simp only [listS, List.mem_cons, List.not_mem_nil, or_false] at hx
  rcases hx with rfl | rfl | rfl | rfl | rfl | rfl | rfl | rfl
  · exact ⟨P4.pf_front 32 _ (by decide) rfl, by simp only [List.length_cons]; omega⟩
  · exact ⟨P4.pf_back n h 32, by simp only [List.length_append, List.length_cons, List.length_nil]; omega⟩
  · exact ⟨P4.pf_front 43 _ (by decide) rfl, by simp only [List.length_cons]; omega⟩
  · exact ⟨P4.pf_minus 45 _ rfl, by simp only [List.length_cons]; omega⟩
  · exact ⟨P4.pf_back n h 58, by simp only [List.length_append, List.length_cons, List.length_nil]; omega⟩
  · exact ⟨P4.pf_front 58 _ (by decide) rfl, by simp only [List.length_cons]; omega⟩
  · exact ⟨P4.pf_back n h 45, by simp only [List.length_append, List.length_cons, List.length_nil]; omega⟩
  · exact ⟨P4.pf_zeros n h, by simp only [List.length_cons]; omega⟩
/-- string([]byte{x, y, z}) -/
theorem conv_three (x y z : Int) (B : Nat) (W : World) (h0 : W.cell? ⟨B, 0, none⟩ = some (.int .u8 x)) (h1 : W.cell? ⟨B, 1, none⟩ = some (.int .u8 y)) (h2 : W.cell? ⟨B, 2, none⟩ = some (.int .u8 z)) :
    (convert 32 9 (.slice (some ⟨B, 0, none⟩) 3 3)).run Tryd.prog W = .ok (.string (str [UInt8.ofNat x.toNat, UInt8.ofNat y.toNat, UInt8.ofNat z.toNat])) W := by
  rw [run_convert_bytes_string W _ _ 5 _ _ _ Tryd.underlying32 Tryd.underlying5 Tryd.underlying9]
  have := run_bytesToString (P := Tryd.prog) W ⟨B, 0, none⟩ 3 3 [x, y, z] (by simp [go_sem, h0, h1, h2])
  simp only [List.foldl] at this
  exact this

set_option maxRecDepth 100000 in
set_option maxHeartbeats 4000000 in
theorem walkOffsetRefuses (n far c : Int) (w : World) (hn : (Lit.int .u32 n).wf = true) (hf : (Lit.int .u32 far).wf = true) (hcc : (Lit.int .u8 c).wf = true) (hv : Vars w) :
    Calls Tryd.prog 7 #[.int .u32 n, .int .u32 far, .int .u8 c] w fun e w' => e = .returned (.bool true) ∧ Below w.heap.size w w' := by
  have hn2 := bounds_u32 hn
  have hf2 := bounds_u32 hf
  have hc2 := bounds_u8 hcc
  clear hn hf hcc
  obtain ⟨X, hX⟩ : ∃ X : Nat, n % 604800 = (X : Int) := ⟨(n % 604800).toNat, by omega⟩
  obtain ⟨H, hH⟩ : ∃ H : Nat, 168 + far % 832 = (H : Int) := ⟨(168 + far % 832).toNat, by omega⟩
  have hX2 : X ≤ 604799 := by omega
  have hH0 : 168 ≤ H := by omega
  have hH1 : H < 1000 := by omega
  have hn0 := hn2.1
  have hn1 := hn2.2
  have hf0 := hf2.1
  have hf1 := hf2.2
  have hc0 := hc2.1
  have hc1 := hc2.2
  clear hn2 hf2 hc2
  have hcv : ∀ (B : Nat) (W : World), W.cell? ⟨B, 0, none⟩ = some (.int .u8 (48 + (H : Int) / 100)) → W.cell? ⟨B, 1, none⟩ = some (.int .u8 (48 + (H : Int) / 10 % 10)) → W.cell? ⟨B, 2, none⟩ = some (.int .u8 (48 + (H : Int) % 10)) →
      (convert 32 9 (.slice (some ⟨B, 0, none⟩) 3 3)).run Tryd.prog W = .ok (.string (str (P4.hun H))) W := by
    intro B W h0 h1 h2
    rw [conv_three _ _ _ B W h0 h1 h2, show (48 + (H : Int) / 100).toNat = 48 + H / 100 by omega, show (48 + (H : Int) / 10 % 10).toNat = 48 + H / 10 % 10 by omega, show (48 + (H : Int) % 10).toNat = 48 + H % 10 by omega]
    rfl
  have hcb := conv_byte c
  have hls : (str (P4.hun H)).size ≤ 3 := Nat.le_refl 3
  have hT1 : str (P4.hun H) ++ ByteArray.mk #[58, 48, 48] = str (P4.hun H ++ [58, 48, 48]) := str_append _ [58, 48, 48]
  have hT2 : str (P4.hun H) ++ ByteArray.mk #[58, 53, 57, 58, 53, 57] = str (P4.hun H ++ [58, 53, 57, 58, 53, 57]) := str_append _ [58, 53, 57, 58, 53, 57]
  have hT3 : ByteArray.mk #[45] ++ str (P4.hun H) = str (45 :: P4.hun H) := str_append [45] _
  have e1 : ByteArray.mk #[32] ++ str (P4.showN X) = str (32 :: P4.showN X) := str_append [32] _
  have e2 : str (P4.showN X) ++ ByteArray.mk #[32] = str (P4.showN X ++ [32]) := str_append _ [32]
  have e3 : ByteArray.mk #[43] ++ str (P4.showN X) = str (43 :: P4.showN X) := str_append [43] _
  have e4 : ByteArray.mk #[45, 45] ++ str (P4.showN X) = str (45 :: 45 :: P4.showN X) := str_append [45, 45] _
  have e5 : str (P4.showN X) ++ ByteArray.mk #[58] = str (P4.showN X ++ [58]) := str_append _ [58]
  have e6 : ByteArray.mk #[58] ++ str (P4.showN X) = str (58 :: P4.showN X) := str_append [58] _
  have e7 : str (P4.showN X) ++ ByteArray.mk #[45] = str (P4.showN X ++ [45]) := str_append _ [45]
  have e8 : ByteArray.mk #[48, 48] ++ str (P4.showN X) = str (48 :: 48 :: P4.showN X) := str_append [48, 48] _
  have e9 : str (P4.showN X) ++ ByteArray.empty.push (UInt8.ofNat c.toNat) = str (P4.showN X ++ [UInt8.ofNat c.toNat]) := str_append _ [UInt8.ofNat c.toNat]
  have hsp : (ByteArray.empty.push (UInt8.ofNat c.toNat)).size = 1 := rfl
  have hR := arrR_at (604800 + far) (by omega) (by omega)
  have hF := arrT_at (listF H) 3 (listF_bad H hH0 hH1) 4 rfl
  have hS := arrT_at (listS (P4.showN X)) 5 (listS_bad X hX2) 8 rfl
  have hlast := P4.pf_back X hX2 (UInt8.ofNat c.toNat)
  have hlen : (str (P4.showN X)).size ≤ 20 := show_len X hX2
  have cP : Hid (∀ W, Vars W → Calls Tryd.prog 19 #[.int .i64 (X : Int)] W fun e w' => e = .returned (.tuple #[.string (str (P4.showN X)), .int .i64 0]) ∧ Below W.heap.size W w') := fun W h => by have q := print_any (X : Int) W (by omega) (by omega) h; rw [P4.print_nat X hX2] at q; exact q
  have HR := Lib.hid hR
  have HF := Lib.hid hF
  have HS := Lib.hid hS
  have HL := Lib.hid hlast
  clear hR hF hS hlast
  go_enter Tryd.func7, Tryd.ntmps7
  go_wp2_with fail
  go_loopw [34] (fun i w2 => ∃ k : Nat, k ≤ 4 ∧ i = .int .i64 k ∧ Blk w2 w.heap.size 2 (arrR (604800 + far)) ∧ Below w.heap.size w w2) (fun i _ => 4 - (intOf i).toNat)
  case atStart => exact ⟨0, by omega, rfl, Blk.new w 2 (arrR (604800 + far)), (Below.refl _ _).alloc (Nat.le_refl _) _⟩
  case round =>
    obtain ⟨k, hk, rfl, hB, hb⟩ := hrel
    by_cases hlt : k < 4
    · obtain ⟨y, a0, hy⟩ := HR.out k hlt
      have c0 : wr.cell? ⟨w.heap.size, k, none⟩ = some (.int .i64 y) := (hB.cell _).trans a0
      have hc : Hid (∀ W, Vars W → Calls Tryd.prog 19 #[.int .i64 y] W fun e w' => e = .returned (.tuple #[.string ⟨#[]⟩, .int .i64 3]) ∧ Below W.heap.size W w') := fun W h => by have q := print_any y W hy.2.1 hy.2.2 h; rw [show P4.print y = ([], 3) from if_pos hy.1] at q; exact q
      clear hy a0
      have hki : (k : Int) < 4 := by omega
      go_wp2_with fail
      refine (hc.out _ (hv.below hb)).mono ?_
      rintro e w1 ⟨rfl, hb1⟩
      have hb2 := hb.trans (hb1.mono hb.size)
      have hB2 := hB.below hb1 hB.lt
      go_wp2_with fail
      go_roundw
      case rel => first | exact ⟨k + 1, by omega, by go_num, hB2, hb2⟩ | ((repeat apply Exists.intro); exact ⟨⟨k + 1, by omega, by go_num, hB2, hb2⟩, rfl⟩)
      case measure => simp [intOf]; omega
    · obtain rfl : k = 4 := by omega
      clear hB
      go_wp2_with fail
      obtain ⟨B77, hBe⟩ : ∃ B, B = wr.heap.size + 1 := ⟨_, rfl⟩
      have hbase : (wr.alloc (.cells #[.int .u8 (48 + (H : Int) / 100), .int .u8 (48 + (H : Int) / 10 % 10), .int .u8 (48 + (H : Int) % 10)] 5)).heap.size = wr.heap.size + 1 := by simp
      have hbb : Below w.heap.size w (wr.alloc (.cells #[.int .u8 (48 + (H : Int) / 100), .int .u8 (48 + (H : Int) / 10 % 10), .int .u8 (48 + (H : Int) % 10)] 5)) := hb.alloc hb.size _
      have hQ : Blk ((wr.alloc (.cells #[.int .u8 (48 + (H : Int) / 100), .int .u8 (48 + (H : Int) / 10 % 10), .int .u8 (48 + (H : Int) % 10)] 5)).alloc (.cells (arrT (listF H)) 9)) B77 9 (arrT (listF H)) := by rw [hBe, ← hbase]; exact Blk.new _ 9 (arrT (listF H))
      have hbQ : Below w.heap.size w ((wr.alloc (.cells #[.int .u8 (48 + (H : Int) / 100), .int .u8 (48 + (H : Int) / 10 % 10), .int .u8 (48 + (H : Int) % 10)] 5)).alloc (.cells (arrT (listF H)) 9)) := hbb.alloc hbb.size _
      clear hbb hbase
      rw [← hBe]
      clear hBe
      go_loopw [77] (fun i w2 => ∃ k : Nat, k ≤ 4 ∧ i = .int .i64 k ∧ Blk w2 B77 9 (arrT (listF H)) ∧ Below w.heap.size w w2) (fun i _ => 4 - (intOf i).toNat)
      case atStart => exact ⟨0, by omega, rfl, hQ, hbQ⟩
      case round =>
        clear hQ hbQ hb
        obtain ⟨k, hk, rfl, hB, hb⟩ := hrel
        by_cases hlt : k < 4
        · obtain ⟨y, a0, hy⟩ := HF.out k hlt
          have c0 : wr.cell? ⟨B77, k, none⟩ = some (.string (str y)) := (hB.cell _).trans a0
          have hc : Hid (∀ W, Vars W → Calls Tryd.prog 17 #[.string (str y)] W fun e w' => e = .returned (.tuple #[.int .i64 0, .int .i64 3]) ∧ Below W.heap.size W w') := fun W h => by have q := parse_any (str y) W (Nat.le_trans hy.2 (by decide)) h; simp only [P4.pv, P4.pe, show P4.parse (P4.bl (str y)) = (0, 3) from hy.1] at q; exact q
          clear hy a0
          have hki : (k : Int) < 4 := by omega
          go_wp2_with fail
          refine (hc.out _ (hv.below hb)).mono ?_
          rintro e w1 ⟨rfl, hb1⟩
          have hb2 := hb.trans (hb1.mono hb.size)
          have hB2 := hB.below hb1 hB.lt
          go_wp2_with fail
          go_roundw
          case rel => first | exact ⟨k + 1, by omega, by go_num, hB2, hb2⟩ | ((repeat apply Exists.intro); exact ⟨⟨k + 1, by omega, by go_num, hB2, hb2⟩, rfl⟩)
          case measure => simp [intOf]; omega
        · obtain rfl : k = 4 := by omega
          clear hB
          go_wp2_with fail
          refine (cP.out _ (hv.below hb)).mono ?_
          rintro e w1 ⟨rfl, hb1⟩
          have hb2 := hb.trans (hb1.mono hb.size)
          clear hb1 hb
          go_wp2_with fail
          obtain ⟨B120, hBe⟩ : ∃ B, B = w1.heap.size := ⟨_, rfl⟩
          have hbase : (w1).heap.size = w1.heap.size := rfl
          have hbb : Below w.heap.size w (w1) := hb2
          have hQ : Blk ((w1).alloc (.cells (arrT (listS (P4.showN X))) 9)) B120 9 (arrT (listS (P4.showN X))) := by rw [hBe, ← hbase]; exact Blk.new _ 9 (arrT (listS (P4.showN X)))
          have hbQ : Below w.heap.size w ((w1).alloc (.cells (arrT (listS (P4.showN X))) 9)) := hbb.alloc hbb.size _
          clear hbb hbase
          rw [← hBe]
          clear hBe
          go_loopw [120] (fun i w2 => ∃ k : Nat, k ≤ 8 ∧ i = .int .i64 k ∧ Blk w2 B120 9 (arrT (listS (P4.showN X))) ∧ Below w.heap.size w w2) (fun i _ => 8 - (intOf i).toNat)
          case atStart => exact ⟨0, by omega, rfl, hQ, hbQ⟩
          case round =>
            clear hQ hbQ hb2
            obtain ⟨k, hk, rfl, hB, hb⟩ := hrel
            by_cases hlt : k < 8
            · obtain ⟨y, a0, hy⟩ := HS.out k hlt
              have c0 : wr.cell? ⟨B120, k, none⟩ = some (.string (str y)) := (hB.cell _).trans a0
              have hc : Hid (∀ W, Vars W → Calls Tryd.prog 17 #[.string (str y)] W fun e w' => e = .returned (.tuple #[.int .i64 0, .int .i64 5]) ∧ Below W.heap.size W w') := fun W h => by have q := parse_any (str y) W (Nat.le_trans hy.2 (by decide)) h; simp only [P4.pv, P4.pe, show P4.parse (P4.bl (str y)) = (0, 5) from hy.1] at q; exact q
              clear hy a0
              have hki : (k : Int) < 8 := by omega
              go_wp2_with fail
              refine (hc.out _ (hv.below hb)).mono ?_
              rintro e w1 ⟨rfl, hb1⟩
              have hb2 := hb.trans (hb1.mono hb.size)
              have hB2 := hB.below hb1 hB.lt
              go_wp2_with fail
              go_roundw
              case rel => first | exact ⟨k + 1, by omega, by go_num, hB2, hb2⟩ | ((repeat apply Exists.intro); exact ⟨⟨k + 1, by omega, by go_num, hB2, hb2⟩, rfl⟩)
              case measure => simp [intOf]; omega
            · obtain rfl : k = 8 := by omega
              clear hB
              have cL : Hid (∀ W, Vars W → Calls Tryd.prog 17 #[.string (str (P4.showN X ++ [UInt8.ofNat c.toNat]))] W fun e w' => e = .returned (.tuple #[.int .i64 0, .int .i64 5]) ∧ Below W.heap.size W w') := fun W h => by have q := parse_any (str (P4.showN X ++ [UInt8.ofNat c.toNat])) W (by rw [str_size, List.length_append]; have := show_len X hX2; simp only [List.length_cons, List.length_nil]; omega) h; simp only [P4.pv, P4.pe, show P4.parse (P4.bl (str (P4.showN X ++ [UInt8.ofNat c.toNat]))) = (0, 5) from HL.out] at q; exact q
              by_cases h48 : 48 ≤ c
              · by_cases h57 : c ≤ 57
                · skip
                  go_wp2_with fail
                  refine (works4_any _ (hv.below hb)).mono ?_
                  rintro e w9 ⟨rfl, hb9⟩
                  go_wp2_with fail
                  go_ret
                  exact ⟨rfl, hb.trans (hb9.mono hb.size)⟩
                · have d57 : decide (c ≤ 57) = false := by simpa using h57
                  have h57i : 57 < c := by omega
                  by_cases h58 : c = 58
                  · have h58b : (c == 58) = true := by rw [beq_iff_eq]; exact h58
                    clear h58
                    go_wp2_with fail
                    refine (works4_any _ (hv.below hb)).mono ?_
                    rintro e w9 ⟨rfl, hb9⟩
                    go_wp2_with fail
                    go_ret
                    exact ⟨rfl, hb.trans (hb9.mono hb.size)⟩
                  · have h58b : (c == 58) = false := by rw [beq_eq_false_iff_ne]; exact h58
                    clear h58
                    have HN := Lib.hid h58b
                    go_wp2_with fail
                    refine (cL.out _ (hv.below (hb.alloc hb.size _))).mono ?_
                    rintro e w8 ⟨rfl, hb8⟩
                    have hba := hb.alloc hb.size (.cells #[.int .u8 c] 5)
                    have hb7 := hba.trans (hb8.mono hba.size)
                    go_wp2_with fail
                    refine (works4_any _ (hv.below hb7)).mono ?_
                    rintro e w9 ⟨rfl, hb9⟩
                    go_wp2_with fail
                    go_ret
                    exact ⟨rfl, hb7.trans (hb9.mono hb7.size)⟩
              · have h58b : (c == 58) = false := by rw [beq_eq_false_iff_ne]; omega
                have d48 : decide (48 ≤ c) = false := by simpa using h48
                have h48i : c < 48 := by omega
                have HN := Lib.hid h58b
                go_wp2_with fail
                refine (cL.out _ (hv.below (hb.alloc hb.size _))).mono ?_
                rintro e w8 ⟨rfl, hb8⟩
                have hba := hb.alloc hb.size (.cells #[.int .u8 c] 5)
                have hb7 := hba.trans (hb8.mono hba.size)
                go_wp2_with fail
                refine (works4_any _ (hv.below hb7)).mono ?_
                rintro e w9 ⟨rfl, hb9⟩
                go_wp2_with fail
                go_ret
                exact ⟨rfl, hb7.trans (hb9.mono hb7.size)⟩
end Go.Proofs.YtgaacbmihcbedaaDoor
