/- The walk of the law VariantNumbers (chapter 24). -/
import Derived.Test.YtbajlkpjemandaaDoorWork24
import Derived.Test.YtbajlkpjemandaaDoorPlain24n
import Derived.OpenShut
import Derived.IntWalk
namespace Go.Proofs.YtbajlkpjemandaaDoor
open Go.RowKit Go.Lib
set_option linter.unusedVariables false

theorem one_five {F : ByteArray} (h : P21.kind (P4.bl F) = 5) (n : Int) : P24.first (P24.badV n) [mkE F] = if P24.num n = true then -1 else 0 := by
  rw [P24.first, P24.first, badV_mk, h]
  cases P24.num n <;> simp
theorem one_ok {F : ByteArray} (h4 : P21.kind (P4.bl F) ≠ 4) (h5 : P21.kind (P4.bl F) ≠ 5) (n : Int) : P24.first (P24.badV n) [mkE F] = -1 := by
  rw [P24.first, P24.first, badV_mk, decide_eq_false h4, decide_eq_false h5]
  simp
theorem five_at {F : ByteArray} {A : Option Addr} {c c' : Nat} {A' : Option Addr} (h : P21.kind (P4.bl F) = 5) (n : Int) (hn : n = 1 ∨ n = 2 ∨ n = 3) : P24.check (srcZ A c [(⟨⟨#[90]⟩, A', c', [mkE F]⟩ : ZV)]) n = atOf (if n = 1 then 17 else 0) 2 0 0 := by
  have q := one_five h n
  rcases hn with rfl | rfl | rfl
  · exact check_one rfl _ _ _ _ (.inr ⟨by rw [q]; decide, rfl, rfl, rfl, by rw [q]; rfl⟩)
  · exact check_one rfl _ _ _ _ (.inl ⟨by rw [q]; decide, rfl⟩)
  · exact check_one rfl _ _ _ _ (.inl ⟨by rw [q]; decide, rfl⟩)
theorem ok_at {F : ByteArray} {A : Option Addr} {c c' : Nat} {A' : Option Addr} (h4 : P21.kind (P4.bl F) ≠ 4) (h5 : P21.kind (P4.bl F) ≠ 5) (n : Int) (hn : n = 1 ∨ n = 2 ∨ n = 3) : P24.check (srcZ A c [(⟨⟨#[90]⟩, A', c', [mkE F]⟩ : ZV)]) n = atOf 0 0 0 0 := by
  have q := one_ok h4 h5 n
  refine check_one ?_ _ _ _ _ (.inl ⟨by rw [q]; decide, rfl⟩)
  rcases hn with rfl | rfl | rfl <;> rfl
/-- the strings of the loop, made one by one -/
structure NumStr (s F T1 T2 T3 T4 U1 U2 T5 : ByteArray) : Prop where
  five : P21.kind (P4.bl F) = 5
  size : F.size ≤ 15
  a1 : ∀ W, (Op.stringOp .add F ⟨#[120]⟩).run Tryd.prog W = .ok (.string T1) W
  a2 : ∀ W, (Op.stringOp .add ⟨#[120]⟩ F).run Tryd.prog W = .ok (.string T2) W
  a3 : ∀ W, (Op.stringOp .add F ⟨#[47]⟩).run Tryd.prog W = .ok (.string T3) W
  a4 : ∀ W, (Op.stringOp .add ⟨#[47]⟩ F).run Tryd.prog W = .ok (.string T4) W
  a5 : ∀ W, (Op.stringOp .add T3 F).run Tryd.prog W = .ok (.string U1) W
  a6 : ∀ W, (Op.stringOp .add U1 ⟨#[47]⟩).run Tryd.prog W = .ok (.string U2) W
  a7 : ∀ W, (Op.stringOp .add U2 F).run Tryd.prog W = .ok (.string T5) W
  pass : ∀ (k : Nat) t, [s, T1, T2, T3, T4, T5, ⟨#[37, 90]⟩, ⟨#[37, 115]⟩, ⟨#[]⟩][k]? = some t → P24.Pass (P4.bl s) (P4.bl t) ∧ t.size ≤ 100
theorem numStr (s : ByteArray) (hs : s.size ≤ 30) (l : List UInt8) (h : P21.kind l = 5) (hl : l.length ≤ 15) : ∃ T1 T2 T3 T4 U1 U2 T5, NumStr s (str l) T1 T2 T3 T4 U1 U2 T5 := by
  refine ⟨str (l ++ [120]), str ([120] ++ l), str (l ++ [47]), str ([47] ++ l), str (l ++ [47] ++ l), str (l ++ [47] ++ l ++ [47]), str (l ++ [47] ++ l ++ [47] ++ l), h, hl, ?_, ?_, ?_, ?_, ?_, ?_, ?_, ?_⟩
  · exact cat_run l [120] (by simp; omega)
  · exact cat_run [120] l (by simp; omega)
  · exact cat_run l [47] (by simp; omega)
  · exact cat_run [47] l (by simp; omega)
  · exact cat_run (l ++ [47]) l (by simp; omega)
  · exact cat_run (l ++ [47] ++ l) [47] (by simp; omega)
  · exact cat_run (l ++ [47] ++ l ++ [47]) l (by simp; omega)
  · intro k t ht
    have hp := P24.pass_tests (s := P4.bl s) h
    have hm := List.mem_of_getElem? ht
    simp only [List.mem_cons, List.not_mem_nil, or_false] at hm
    simp only [P24.tests, List.forall_mem_cons] at hp
    obtain ⟨p1, p2, p3, p4, p5, p6, p7, p8, p9, _⟩ := hp
    rcases hm with rfl | rfl | rfl | rfl | rfl | rfl | rfl | rfl | rfl
    · exact ⟨p1, by omega⟩
    · exact ⟨p2, by rw [str_size]; simp; omega⟩
    · exact ⟨p3, by rw [str_size]; simp; omega⟩
    · exact ⟨p4, by rw [str_size]; simp; omega⟩
    · exact ⟨p5, by rw [str_size]; simp; omega⟩
    · exact ⟨p6, by rw [str_size]; simp; omega⟩
    · exact ⟨p7, by decide⟩
    · exact ⟨p8, by decide⟩
    · exact ⟨p9, by decide⟩

set_option maxRecDepth 100000 in
set_option maxHeartbeats 16000000 in
theorem walkVariantNumbers (x y : Int) (two : Bool) (s : ByteArray) (w : World) (hx : (Lit.int .i32 x).wf = true) (hy : (Lit.int .i32 y).wf = true) (hs : s.size ≤ maxLen) (hv : Vars24 w) :
    Calls Tryd.prog 13 #[.int .i32 x, .int .i32 y, .bool two, .string s] w fun e w' => e = .returned (.bool true) ∧ Below w.heap.size w w' := by
  unfold maxLen at hs
  have hsi : (s.size : Int) ≤ 9223372036854775807 := by omega
  obtain ⟨hx0, hx1⟩ := bounds_i32 hx
  obtain ⟨hy0, hy1⟩ := bounds_i32 hy
  clear hx hy hs
  have HV := Lib.hid hv
  clear hv
  by_cases h1 : 30 < s.size
  · have h1i : (30 : Int) < (s.size : Int) := by omega
    have hb0 := Below.refl w.heap.size w
    go_enter Tryd.func13, Tryd.ntmps13
    have hv9 := HV.out.below hb0
    go_wp2_with fail
    refine (works24_any _ hv9).mono ?_
    rintro e wE ⟨rfl, hc⟩
    have hb9 := hb0.trans (hc.mono hb0.size)
    go_wp2_with fail
    go_ret
    exact ⟨rfl, hb9⟩
  · have h1i : ¬ (30 : Int) < (s.size : Int) := by omega
    have tmb : ∀ m : Int, -86399 ≤ m.tmod 86400 ∧ m.tmod 86400 ≤ 86399 := fun m => by
      have h1 := Int.tmod_lt_of_pos m (show (0 : Int) < 86400 by decide)
      have h2 := Int.lt_tmod_of_pos m (show (0 : Int) < 86400 by decide)
      omega
    have bx := tmb x
    have bY := tmb y
    obtain ⟨X, hX⟩ : ∃ X, x.tmod 86400 = X := ⟨_, rfl⟩
    obtain ⟨Y, hY⟩ : ∃ Y, y.tmod 86400 = Y := ⟨_, rfl⟩
    rw [hX] at bx
    rw [hY] at bY
    have hx2 : -9223372036854775808 ≤ X ∧ X ≤ 9223372036854775807 := by clear hX hY; omega
    have hy2 : -9223372036854775808 ≤ Y ∧ Y ≤ 9223372036854775807 := by clear hX hY; omega
    have hs30 : s.size ≤ 30 := by clear hX hY; omega
    have cX : Hid (∀ W, Calls Tryd.prog 44 #[.int .i64 X] W fun e w' => e = .returned (.string (str (P20.text X))) ∧ Below W.heap.size W w') := fun W => ntext_any X W hx2.1 hx2.2
    have cY : Hid (∀ W, Calls Tryd.prog 44 #[.int .i64 Y] W fun e w' => e = .returned (.string (str (P20.text Y))) ∧ Below W.heap.size W w') := fun W => ntext_any Y W hy2.1 hy2.2
    obtain ⟨T1, T2, T3, T4, U1, U2, T5, hT⟩ := numStr s hs30 _ (P24.ftext5 two bx bY) (P24.ftext_len X Y two)
    have hcat1 : ∀ W, (Op.stringOp .add ⟨#[47]⟩ (str (P20.text Y))).run Tryd.prog W = .ok (.string (str (47 :: P20.text Y))) W := cat_run [47] (P20.text Y) (by have := P20.text_len Y; simp; omega)
    have hcat2 : ∀ W, (Op.stringOp .add (str (P20.text X)) (str (47 :: P20.text Y))).run Tryd.prog W = .ok (.string (str (P20.text X ++ 47 :: P20.text Y))) W := cat_run (P20.text X) (47 :: P20.text Y) (by have := P20.text_len Y; have := P20.text_len X; simp; omega)
    clear bx bY hx2 hy2 hs30 tmb h1
    cases two with
    | false =>
      rw [show P24.ftext X Y false = P20.text X from rfl] at hT
      clear cY hcat1 hcat2 hY
      generalize str (P20.text X) = F at cX hT
      have HT := Lib.hid hT
      clear hT
      go_enter Tryd.func13, Tryd.ntmps13
      go_wp2_with fail
      refine (cX.out _).mono ?_
      rintro e w1 ⟨rfl, hb1⟩
      clear cX hX
      have hF7 : CellsIn 1 (fun b : ByteArray => [Value.string b]) (w1.alloc (.cells #[.string F] 9)) (some ⟨w1.heap.size, 0, none⟩) [F] := cells_new (m := 1) (f := fun b : ByteArray => [Value.string b]) (fun _ => rfl) w1 _ [F]
      have hb7a := hb1.alloc hb1.size (.cells #[.string F] 9)
      have cZ7 := Lib.hid (zone_any _ 1 _ _ (by show 1 ≤ 1000; decide) hF7)
      clear hF7
      go_wp2_with fail
      refine cZ7.out.mono ?_
      rintro e w7 ⟨A7, c7, rfl, hC7, hc⟩
      have hb7 := hb7a.trans (hc.mono hb7a.size)
      have hZ7 : CellsIn 2 ZV.cells (w7.alloc (.cells #[.string ⟨#[90]⟩, .slice A7 1 c7] 87)) (some ⟨w7.heap.size, 0, none⟩) [(⟨⟨#[90]⟩, A7, c7, [mkE F]⟩ : ZV)] := cells_new (m := 2) (f := ZV.cells) (fun _ => rfl) w7 _ [(⟨⟨#[90]⟩, A7, c7, [mkE F]⟩ : ZV)]
      have hC7' := hC7.alloc (.cells #[.string ⟨#[90]⟩, .slice A7 1 c7] 87)
      have hb7z := hb7.alloc hb7.size (.cells #[.string ⟨#[90]⟩, .slice A7 1 c7] 87)
      have hv7 := HV.out.below hb7z
      have cI7 := Lib.hid (is24_any (srcZ (some ⟨w7.heap.size, 0, none⟩) 1 [(⟨⟨#[90]⟩, A7, c7, [mkE F]⟩ : ZV)]) 2 0 0 17 0 0 _ (srcZ_in hZ7 hC7') (srcZ_small (by show 1 ≤ 1000000; decide) (fun e he => by simp at he; rcases he with rfl; have := HT.out.size; show (ByteArray.size _) ≤ 1000000; simp only [mkE]; omega)) hv7 (five_at HT.out.five 1 (by decide)) (five_at HT.out.five 2 (by decide)) (five_at HT.out.five 3 (by decide)))
      clear hZ7 hC7 hC7' hv7 hb7 hc cZ7
      go_wp2_with fail
      refine cI7.out.mono ?_
      rintro e w8 ⟨rfl, hc⟩
      have hb8 := hb7z.trans (hc.mono hb7z.size)
      clear hc hb7z cI7 hb7a
      have a1 := HT.out.a1
      have a2 := HT.out.a2
      have a3 := HT.out.a3
      have a4 := HT.out.a4
      have a5 := HT.out.a5
      have a6 := HT.out.a6
      have a7 := HT.out.a7
      have hE2 := Blk.new w8 9 #[.string s, .string T1, .string T2, .string T3, .string T4, .string T5, .string ⟨#[37, 90]⟩, .string ⟨#[37, 115]⟩, .string ⟨#[]⟩]
      have hb2 := hb8.alloc hb8.size (.cells #[.string s, .string T1, .string T2, .string T3, .string T4, .string T5, .string ⟨#[37, 90]⟩, .string ⟨#[37, 115]⟩, .string ⟨#[]⟩] 9)
      clear hb8 hb1
      go_wp2_with fail
      clear a1 a2 a3 a4 a5 a6 a7
      generalize w8.heap.size = BE at hE2 ⊢
      generalize w8.alloc (.cells #[.string s, .string T1, .string T2, .string T3, .string T4, .string T5, .string ⟨#[37, 90]⟩, .string ⟨#[37, 115]⟩, .string ⟨#[]⟩] 9) = W0 at hE2 hb2 ⊢
      go_loopw [54] (fun i wr => ∃ k : Nat, k ≤ 9 ∧ i = .int .i64 (k : Int) ∧ Blk wr BE 9 #[.string s, .string T1, .string T2, .string T3, .string T4, .string T5, .string ⟨#[37, 90]⟩, .string ⟨#[37, 115]⟩, .string ⟨#[]⟩] ∧ Below w.heap.size w wr) (fun i _ => 9 - (intOf i).toNat)
      case atStart => exact ⟨0, by omega, rfl, hE2, hb2⟩
      case round =>
        clear hE2 hb2
        obtain ⟨k, hk, rfl, hE, hb⟩ := hrel
        by_cases hlt : k < 9
        · obtain ⟨t, hf, hP, hts⟩ : ∃ t : ByteArray, wr.cell? ⟨BE, k, none⟩ = some (.string t) ∧ P24.Pass (P4.bl s) (P4.bl t) ∧ t.size ≤ 100 := by
            have hk9 : k = 0 ∨ k = 1 ∨ k = 2 ∨ k = 3 ∨ k = 4 ∨ k = 5 ∨ k = 6 ∨ k = 7 ∨ k = 8 := by omega
            rcases hk9 with rfl | rfl | rfl | rfl | rfl | rfl | rfl | rfl | rfl
            · exact ⟨_, (hE.cell 0).trans rfl, HT.out.pass 0 _ rfl⟩
            · exact ⟨_, (hE.cell 1).trans rfl, HT.out.pass 1 _ rfl⟩
            · exact ⟨_, (hE.cell 2).trans rfl, HT.out.pass 2 _ rfl⟩
            · exact ⟨_, (hE.cell 3).trans rfl, HT.out.pass 3 _ rfl⟩
            · exact ⟨_, (hE.cell 4).trans rfl, HT.out.pass 4 _ rfl⟩
            · exact ⟨_, (hE.cell 5).trans rfl, HT.out.pass 5 _ rfl⟩
            · exact ⟨_, (hE.cell 6).trans rfl, HT.out.pass 6 _ rfl⟩
            · exact ⟨_, (hE.cell 7).trans rfl, HT.out.pass 7 _ rfl⟩
            · exact ⟨_, (hE.cell 8).trans rfl, HT.out.pass 8 _ rfl⟩
          have hki : (k : Int) < 9 := by omega
          have HS := Lib.hid hts
          have htI : (t.size : Int) ≤ 100 := by omega
          clear hts
          by_cases q1 : P4.bl t = [37, 122]
          · have t1 : (t.toList == [37, 122]) = true := by
              have : t = str [37, 122] := by rw [← q1]; exact (str_bl t).symm
              rw [this, str_toList]; rfl
            clear q1
            clear hP
            go_wp2_with fail
            go_roundw
            case rel => exact ⟨k + 1, by omega, by go_num, hE, hb⟩
            case measure => simp [intOf]; omega
          · have t1 : (t.toList == [37, 122]) = false := by have x := eq_b t (str [37, 122]) (ne_size q1); rwa [str_toList] at x
            replace hP := hP.resolve_left q1
            clear q1
            rcases Nat.eq_zero_or_pos t.size with h0 | h0
            · have et : t = str [] := by
                have hl0 : (P4.bl t).length = 0 := by rw [P4.bl_len]; exact h0
                have : P4.bl t = [] := List.length_eq_zero_iff.1 hl0
                rw [← this]; exact (str_bl t).symm
              have hK : P21.kind (P4.bl t) ≠ 4 ∧ P21.kind (P4.bl t) ≠ 5 := by
                rcases hP with ⟨c, u, e, _⟩ | h
                · rw [et] at e; exact absurd e (List.cons_ne_nil _ _).symm
                · exact h
              have te : t.toList = [] := by rw [et]; exact str_toList []
              clear et h0 t1
              have HK := Lib.hid hK
              clear hP hK
              have hF7 : CellsIn 1 (fun b : ByteArray => [Value.string b]) (wr.alloc (.cells #[.string t] 9)) (some ⟨wr.heap.size, 0, none⟩) [t] := cells_new (m := 1) (f := fun b : ByteArray => [Value.string b]) (fun _ => rfl) wr _ [t]
              have hb7a := hb.alloc hb.size (.cells #[.string t] 9)
              have hE7a := hE.alloc (.cells #[.string t] 9)
              clear hE
              have cZ7 := Lib.hid (zone_any _ 1 _ _ (by show 1 ≤ 1000; decide) hF7)
              clear hF7
              go_wp2_with fail
              refine cZ7.out.mono ?_
              rintro e w7 ⟨A7, c7, rfl, hC7, hc⟩
              have hb7 := hb7a.trans (hc.mono hb7a.size)
              have hZ7 : CellsIn 2 ZV.cells (w7.alloc (.cells #[.string ⟨#[90]⟩, .slice A7 1 c7] 87)) (some ⟨w7.heap.size, 0, none⟩) [(⟨⟨#[90]⟩, A7, c7, [mkE t]⟩ : ZV)] := cells_new (m := 2) (f := ZV.cells) (fun _ => rfl) w7 _ [(⟨⟨#[90]⟩, A7, c7, [mkE t]⟩ : ZV)]
              have hC7' := hC7.alloc (.cells #[.string ⟨#[90]⟩, .slice A7 1 c7] 87)
              have hb7z := hb7.alloc hb7.size (.cells #[.string ⟨#[90]⟩, .slice A7 1 c7] 87)
              have hE7z := (hE7a.below hc hE7a.lt).alloc (.cells #[.string ⟨#[90]⟩, .slice A7 1 c7] 87)
              clear hE7a
              have hv7 := HV.out.below hb7z
              have cI7 := Lib.hid (is24_any (srcZ (some ⟨w7.heap.size, 0, none⟩) 1 [(⟨⟨#[90]⟩, A7, c7, [mkE t]⟩ : ZV)]) 0 0 0 0 0 0 _ (srcZ_in hZ7 hC7') (srcZ_small (by show 1 ≤ 1000000; decide) (fun e he => by simp at he; rcases he with rfl; have := HS.out; show (ByteArray.size _) ≤ 1000000; simp only [mkE]; omega)) hv7 (ok_at HK.out.1 HK.out.2 1 (by decide)) (ok_at HK.out.1 HK.out.2 2 (by decide)) (ok_at HK.out.1 HK.out.2 3 (by decide)))
              clear hZ7 hC7 hC7' hv7 hb7 hc cZ7
              go_wp2_with fail
              refine cI7.out.mono ?_
              rintro e w8 ⟨rfl, hc⟩
              have hb8 := hb7z.trans (hc.mono hb7z.size)
              have hE8 := hE7z.below hc hE7z.lt
              clear hE7z
              clear hc hb7z cI7 hb7a
              go_wp2_with fail
              go_roundw
              case rel => exact ⟨k + 1, by omega, by go_num, hE8, hb8⟩
              case measure => simp [intOf]; omega
            · have h0i : (0 : Int) < (t.size : Int) := by omega
              obtain ⟨a, ha⟩ : ∃ a : Int, ((t[0]'h0).toNat : Int) = a := ⟨_, rfl⟩
              have hA : ∀ h, ((t[0]'h).toNat : Int) = a := fun _ => ha
              have te := str_ne (l := P4.bl t) (by rw [P4.bl_len]; exact h0)
              have te1 : t.toList.isEmpty = false := te.1
              have te2 : ¬ t.toList = [] := te.2
              have hhd : (P4.bl t)[0]? = some (t[0]'h0) := P4.bl_get t 0 h0
              have hca : a = 43 ∨ a = 45 ∨ (a ≠ 43 ∧ a ≠ 45) := by omega
              rcases hca with rfl | rfl | ⟨q3, q4⟩
              · by_cases qs : t = s
                · have ts : (t.toList == s.toList) = true := by rw [qs]; exact beq_self_eq_true _
                  clear qs te hhd ha
                  clear hP
                  go_wp2_with fail
                  go_roundw
                  case rel => exact ⟨k + 1, by omega, by go_num, hE, hb⟩
                  case measure => simp [intOf]; omega
                · have ts : (t.toList == s.toList) = false := eq_b t s qs
                  have hK : P21.kind (P4.bl t) ≠ 4 ∧ P21.kind (P4.bl t) ≠ 5 := by
                    rcases hP with ⟨c, u, _, _, e⟩ | h
                    · exact absurd (by rw [← str_bl t, ← str_bl s]; exact congrArg str e) qs
                    · exact h
                  clear qs te hhd ha
                  have HK := Lib.hid hK
                  clear hP hK
                  have hF7 : CellsIn 1 (fun b : ByteArray => [Value.string b]) (wr.alloc (.cells #[.string t] 9)) (some ⟨wr.heap.size, 0, none⟩) [t] := cells_new (m := 1) (f := fun b : ByteArray => [Value.string b]) (fun _ => rfl) wr _ [t]
                  have hb7a := hb.alloc hb.size (.cells #[.string t] 9)
                  have hE7a := hE.alloc (.cells #[.string t] 9)
                  clear hE
                  have cZ7 := Lib.hid (zone_any _ 1 _ _ (by show 1 ≤ 1000; decide) hF7)
                  clear hF7
                  go_wp2_with fail
                  refine cZ7.out.mono ?_
                  rintro e w7 ⟨A7, c7, rfl, hC7, hc⟩
                  have hb7 := hb7a.trans (hc.mono hb7a.size)
                  have hZ7 : CellsIn 2 ZV.cells (w7.alloc (.cells #[.string ⟨#[90]⟩, .slice A7 1 c7] 87)) (some ⟨w7.heap.size, 0, none⟩) [(⟨⟨#[90]⟩, A7, c7, [mkE t]⟩ : ZV)] := cells_new (m := 2) (f := ZV.cells) (fun _ => rfl) w7 _ [(⟨⟨#[90]⟩, A7, c7, [mkE t]⟩ : ZV)]
                  have hC7' := hC7.alloc (.cells #[.string ⟨#[90]⟩, .slice A7 1 c7] 87)
                  have hb7z := hb7.alloc hb7.size (.cells #[.string ⟨#[90]⟩, .slice A7 1 c7] 87)
                  have hE7z := (hE7a.below hc hE7a.lt).alloc (.cells #[.string ⟨#[90]⟩, .slice A7 1 c7] 87)
                  clear hE7a
                  have hv7 := HV.out.below hb7z
                  have cI7 := Lib.hid (is24_any (srcZ (some ⟨w7.heap.size, 0, none⟩) 1 [(⟨⟨#[90]⟩, A7, c7, [mkE t]⟩ : ZV)]) 0 0 0 0 0 0 _ (srcZ_in hZ7 hC7') (srcZ_small (by show 1 ≤ 1000000; decide) (fun e he => by simp at he; rcases he with rfl; have := HS.out; show (ByteArray.size _) ≤ 1000000; simp only [mkE]; omega)) hv7 (ok_at HK.out.1 HK.out.2 1 (by decide)) (ok_at HK.out.1 HK.out.2 2 (by decide)) (ok_at HK.out.1 HK.out.2 3 (by decide)))
                  clear hZ7 hC7 hC7' hv7 hb7 hc cZ7
                  go_wp2_with fail
                  refine cI7.out.mono ?_
                  rintro e w8 ⟨rfl, hc⟩
                  have hb8 := hb7z.trans (hc.mono hb7z.size)
                  have hE8 := hE7z.below hc hE7z.lt
                  clear hE7z
                  clear hc hb7z cI7 hb7a
                  go_wp2_with fail
                  go_roundw
                  case rel => exact ⟨k + 1, by omega, by go_num, hE8, hb8⟩
                  case measure => simp [intOf]; omega
              · by_cases qs : t = s
                · have ts : (t.toList == s.toList) = true := by rw [qs]; exact beq_self_eq_true _
                  clear qs te hhd ha
                  clear hP
                  go_wp2_with fail
                  go_roundw
                  case rel => exact ⟨k + 1, by omega, by go_num, hE, hb⟩
                  case measure => simp [intOf]; omega
                · have ts : (t.toList == s.toList) = false := eq_b t s qs
                  have hK : P21.kind (P4.bl t) ≠ 4 ∧ P21.kind (P4.bl t) ≠ 5 := by
                    rcases hP with ⟨c, u, _, _, e⟩ | h
                    · exact absurd (by rw [← str_bl t, ← str_bl s]; exact congrArg str e) qs
                    · exact h
                  clear qs te hhd ha
                  have HK := Lib.hid hK
                  clear hP hK
                  have hF7 : CellsIn 1 (fun b : ByteArray => [Value.string b]) (wr.alloc (.cells #[.string t] 9)) (some ⟨wr.heap.size, 0, none⟩) [t] := cells_new (m := 1) (f := fun b : ByteArray => [Value.string b]) (fun _ => rfl) wr _ [t]
                  have hb7a := hb.alloc hb.size (.cells #[.string t] 9)
                  have hE7a := hE.alloc (.cells #[.string t] 9)
                  clear hE
                  have cZ7 := Lib.hid (zone_any _ 1 _ _ (by show 1 ≤ 1000; decide) hF7)
                  clear hF7
                  go_wp2_with fail
                  refine cZ7.out.mono ?_
                  rintro e w7 ⟨A7, c7, rfl, hC7, hc⟩
                  have hb7 := hb7a.trans (hc.mono hb7a.size)
                  have hZ7 : CellsIn 2 ZV.cells (w7.alloc (.cells #[.string ⟨#[90]⟩, .slice A7 1 c7] 87)) (some ⟨w7.heap.size, 0, none⟩) [(⟨⟨#[90]⟩, A7, c7, [mkE t]⟩ : ZV)] := cells_new (m := 2) (f := ZV.cells) (fun _ => rfl) w7 _ [(⟨⟨#[90]⟩, A7, c7, [mkE t]⟩ : ZV)]
                  have hC7' := hC7.alloc (.cells #[.string ⟨#[90]⟩, .slice A7 1 c7] 87)
                  have hb7z := hb7.alloc hb7.size (.cells #[.string ⟨#[90]⟩, .slice A7 1 c7] 87)
                  have hE7z := (hE7a.below hc hE7a.lt).alloc (.cells #[.string ⟨#[90]⟩, .slice A7 1 c7] 87)
                  clear hE7a
                  have hv7 := HV.out.below hb7z
                  have cI7 := Lib.hid (is24_any (srcZ (some ⟨w7.heap.size, 0, none⟩) 1 [(⟨⟨#[90]⟩, A7, c7, [mkE t]⟩ : ZV)]) 0 0 0 0 0 0 _ (srcZ_in hZ7 hC7') (srcZ_small (by show 1 ≤ 1000000; decide) (fun e he => by simp at he; rcases he with rfl; have := HS.out; show (ByteArray.size _) ≤ 1000000; simp only [mkE]; omega)) hv7 (ok_at HK.out.1 HK.out.2 1 (by decide)) (ok_at HK.out.1 HK.out.2 2 (by decide)) (ok_at HK.out.1 HK.out.2 3 (by decide)))
                  clear hZ7 hC7 hC7' hv7 hb7 hc cZ7
                  go_wp2_with fail
                  refine cI7.out.mono ?_
                  rintro e w8 ⟨rfl, hc⟩
                  have hb8 := hb7z.trans (hc.mono hb7z.size)
                  have hE8 := hE7z.below hc hE7z.lt
                  clear hE7z
                  clear hc hb7z cI7 hb7a
                  go_wp2_with fail
                  go_roundw
                  case rel => exact ⟨k + 1, by omega, by go_num, hE8, hb8⟩
                  case measure => simp [intOf]; omega
              · have b3 : (a == 43) = false := by rw [beq_eq_false_iff_ne]; exact q3
                have b4 : (a == 45) = false := by rw [beq_eq_false_iff_ne]; exact q4
                have hK : P21.kind (P4.bl t) ≠ 4 ∧ P21.kind (P4.bl t) ≠ 5 := by
                  rcases hP with ⟨c, u, e, hc, _⟩ | h
                  · rw [e, List.getElem?_cons_zero] at hhd
                    injection hhd with hhd
                    rw [← hhd] at ha
                    rcases hc with rfl | rfl
                    · exact absurd ha.symm q3
                    · exact absurd ha.symm q4
                  · exact h
                clear q3 q4 te hhd ha
                have HK := Lib.hid hK
                clear hP hK
                have hF7 : CellsIn 1 (fun b : ByteArray => [Value.string b]) (wr.alloc (.cells #[.string t] 9)) (some ⟨wr.heap.size, 0, none⟩) [t] := cells_new (m := 1) (f := fun b : ByteArray => [Value.string b]) (fun _ => rfl) wr _ [t]
                have hb7a := hb.alloc hb.size (.cells #[.string t] 9)
                have hE7a := hE.alloc (.cells #[.string t] 9)
                clear hE
                have cZ7 := Lib.hid (zone_any _ 1 _ _ (by show 1 ≤ 1000; decide) hF7)
                clear hF7
                go_wp2_with fail
                refine cZ7.out.mono ?_
                rintro e w7 ⟨A7, c7, rfl, hC7, hc⟩
                have hb7 := hb7a.trans (hc.mono hb7a.size)
                have hZ7 : CellsIn 2 ZV.cells (w7.alloc (.cells #[.string ⟨#[90]⟩, .slice A7 1 c7] 87)) (some ⟨w7.heap.size, 0, none⟩) [(⟨⟨#[90]⟩, A7, c7, [mkE t]⟩ : ZV)] := cells_new (m := 2) (f := ZV.cells) (fun _ => rfl) w7 _ [(⟨⟨#[90]⟩, A7, c7, [mkE t]⟩ : ZV)]
                have hC7' := hC7.alloc (.cells #[.string ⟨#[90]⟩, .slice A7 1 c7] 87)
                have hb7z := hb7.alloc hb7.size (.cells #[.string ⟨#[90]⟩, .slice A7 1 c7] 87)
                have hE7z := (hE7a.below hc hE7a.lt).alloc (.cells #[.string ⟨#[90]⟩, .slice A7 1 c7] 87)
                clear hE7a
                have hv7 := HV.out.below hb7z
                have cI7 := Lib.hid (is24_any (srcZ (some ⟨w7.heap.size, 0, none⟩) 1 [(⟨⟨#[90]⟩, A7, c7, [mkE t]⟩ : ZV)]) 0 0 0 0 0 0 _ (srcZ_in hZ7 hC7') (srcZ_small (by show 1 ≤ 1000000; decide) (fun e he => by simp at he; rcases he with rfl; have := HS.out; show (ByteArray.size _) ≤ 1000000; simp only [mkE]; omega)) hv7 (ok_at HK.out.1 HK.out.2 1 (by decide)) (ok_at HK.out.1 HK.out.2 2 (by decide)) (ok_at HK.out.1 HK.out.2 3 (by decide)))
                clear hZ7 hC7 hC7' hv7 hb7 hc cZ7
                go_wp2_with fail
                refine cI7.out.mono ?_
                rintro e w8 ⟨rfl, hc⟩
                have hb8 := hb7z.trans (hc.mono hb7z.size)
                have hE8 := hE7z.below hc hE7z.lt
                clear hE7z
                clear hc hb7z cI7 hb7a
                go_wp2_with fail
                go_roundw
                case rel => exact ⟨k + 1, by omega, by go_num, hE8, hb8⟩
                case measure => simp [intOf]; omega
        · obtain rfl : k = 9 := by omega
          clear hE
          have hv9 := HV.out.below hb
          go_wp2_with fail
          refine (works24_any _ hv9).mono ?_
          rintro e wE ⟨rfl, hc⟩
          have hb9 := hb.trans (hc.mono hb.size)
          go_wp2_with fail
          go_ret
          exact ⟨rfl, hb9⟩
    | true =>
      rw [show P24.ftext X Y true = P20.text X ++ 47 :: P20.text Y from rfl] at hT
      generalize str (P20.text X) = SX at cX hcat2
      generalize str (P20.text Y) = SY at cY hcat1
      generalize str (P20.text X ++ 47 :: P20.text Y) = F at hT hcat2
      generalize str (47 :: P20.text Y) = SZ at hcat1 hcat2
      have HT := Lib.hid hT
      clear hT
      go_enter Tryd.func13, Tryd.ntmps13
      go_wp2_with fail
      refine (cX.out _).mono ?_
      rintro e w0 ⟨rfl, hb0⟩
      clear cX hX
      go_wp2_with fail
      refine (cY.out _).mono ?_
      rintro e w1 ⟨rfl, hc⟩
      have hb1 := hb0.trans (hc.mono hb0.size)
      clear cY hY hb0 hc
      have hF7 : CellsIn 1 (fun b : ByteArray => [Value.string b]) (w1.alloc (.cells #[.string F] 9)) (some ⟨w1.heap.size, 0, none⟩) [F] := cells_new (m := 1) (f := fun b : ByteArray => [Value.string b]) (fun _ => rfl) w1 _ [F]
      have hb7a := hb1.alloc hb1.size (.cells #[.string F] 9)
      have cZ7 := Lib.hid (zone_any _ 1 _ _ (by show 1 ≤ 1000; decide) hF7)
      clear hF7
      go_wp2_with fail
      refine cZ7.out.mono ?_
      rintro e w7 ⟨A7, c7, rfl, hC7, hc⟩
      have hb7 := hb7a.trans (hc.mono hb7a.size)
      have hZ7 : CellsIn 2 ZV.cells (w7.alloc (.cells #[.string ⟨#[90]⟩, .slice A7 1 c7] 87)) (some ⟨w7.heap.size, 0, none⟩) [(⟨⟨#[90]⟩, A7, c7, [mkE F]⟩ : ZV)] := cells_new (m := 2) (f := ZV.cells) (fun _ => rfl) w7 _ [(⟨⟨#[90]⟩, A7, c7, [mkE F]⟩ : ZV)]
      have hC7' := hC7.alloc (.cells #[.string ⟨#[90]⟩, .slice A7 1 c7] 87)
      have hb7z := hb7.alloc hb7.size (.cells #[.string ⟨#[90]⟩, .slice A7 1 c7] 87)
      have hv7 := HV.out.below hb7z
      have cI7 := Lib.hid (is24_any (srcZ (some ⟨w7.heap.size, 0, none⟩) 1 [(⟨⟨#[90]⟩, A7, c7, [mkE F]⟩ : ZV)]) 2 0 0 17 0 0 _ (srcZ_in hZ7 hC7') (srcZ_small (by show 1 ≤ 1000000; decide) (fun e he => by simp at he; rcases he with rfl; have := HT.out.size; show (ByteArray.size _) ≤ 1000000; simp only [mkE]; omega)) hv7 (five_at HT.out.five 1 (by decide)) (five_at HT.out.five 2 (by decide)) (five_at HT.out.five 3 (by decide)))
      clear hZ7 hC7 hC7' hv7 hb7 hc cZ7
      go_wp2_with fail
      refine cI7.out.mono ?_
      rintro e w8 ⟨rfl, hc⟩
      have hb8 := hb7z.trans (hc.mono hb7z.size)
      clear hc hb7z cI7 hb7a
      have a1 := HT.out.a1
      have a2 := HT.out.a2
      have a3 := HT.out.a3
      have a4 := HT.out.a4
      have a5 := HT.out.a5
      have a6 := HT.out.a6
      have a7 := HT.out.a7
      have hE2 := Blk.new w8 9 #[.string s, .string T1, .string T2, .string T3, .string T4, .string T5, .string ⟨#[37, 90]⟩, .string ⟨#[37, 115]⟩, .string ⟨#[]⟩]
      have hb2 := hb8.alloc hb8.size (.cells #[.string s, .string T1, .string T2, .string T3, .string T4, .string T5, .string ⟨#[37, 90]⟩, .string ⟨#[37, 115]⟩, .string ⟨#[]⟩] 9)
      clear hb8 hb1
      go_wp2_with fail
      clear a1 a2 a3 a4 a5 a6 a7
      generalize w8.heap.size = BE at hE2 ⊢
      generalize w8.alloc (.cells #[.string s, .string T1, .string T2, .string T3, .string T4, .string T5, .string ⟨#[37, 90]⟩, .string ⟨#[37, 115]⟩, .string ⟨#[]⟩] 9) = W0 at hE2 hb2 ⊢
      go_loopw [54] (fun i wr => ∃ k : Nat, k ≤ 9 ∧ i = .int .i64 (k : Int) ∧ Blk wr BE 9 #[.string s, .string T1, .string T2, .string T3, .string T4, .string T5, .string ⟨#[37, 90]⟩, .string ⟨#[37, 115]⟩, .string ⟨#[]⟩] ∧ Below w.heap.size w wr) (fun i _ => 9 - (intOf i).toNat)
      case atStart => exact ⟨0, by omega, rfl, hE2, hb2⟩
      case round =>
        clear hE2 hb2
        obtain ⟨k, hk, rfl, hE, hb⟩ := hrel
        by_cases hlt : k < 9
        · obtain ⟨t, hf, hP, hts⟩ : ∃ t : ByteArray, wr.cell? ⟨BE, k, none⟩ = some (.string t) ∧ P24.Pass (P4.bl s) (P4.bl t) ∧ t.size ≤ 100 := by
            have hk9 : k = 0 ∨ k = 1 ∨ k = 2 ∨ k = 3 ∨ k = 4 ∨ k = 5 ∨ k = 6 ∨ k = 7 ∨ k = 8 := by omega
            rcases hk9 with rfl | rfl | rfl | rfl | rfl | rfl | rfl | rfl | rfl
            · exact ⟨_, (hE.cell 0).trans rfl, HT.out.pass 0 _ rfl⟩
            · exact ⟨_, (hE.cell 1).trans rfl, HT.out.pass 1 _ rfl⟩
            · exact ⟨_, (hE.cell 2).trans rfl, HT.out.pass 2 _ rfl⟩
            · exact ⟨_, (hE.cell 3).trans rfl, HT.out.pass 3 _ rfl⟩
            · exact ⟨_, (hE.cell 4).trans rfl, HT.out.pass 4 _ rfl⟩
            · exact ⟨_, (hE.cell 5).trans rfl, HT.out.pass 5 _ rfl⟩
            · exact ⟨_, (hE.cell 6).trans rfl, HT.out.pass 6 _ rfl⟩
            · exact ⟨_, (hE.cell 7).trans rfl, HT.out.pass 7 _ rfl⟩
            · exact ⟨_, (hE.cell 8).trans rfl, HT.out.pass 8 _ rfl⟩
          have hki : (k : Int) < 9 := by omega
          have HS := Lib.hid hts
          have htI : (t.size : Int) ≤ 100 := by omega
          clear hts
          by_cases q1 : P4.bl t = [37, 122]
          · have t1 : (t.toList == [37, 122]) = true := by
              have : t = str [37, 122] := by rw [← q1]; exact (str_bl t).symm
              rw [this, str_toList]; rfl
            clear q1
            clear hP
            go_wp2_with fail
            go_roundw
            case rel => exact ⟨k + 1, by omega, by go_num, hE, hb⟩
            case measure => simp [intOf]; omega
          · have t1 : (t.toList == [37, 122]) = false := by have x := eq_b t (str [37, 122]) (ne_size q1); rwa [str_toList] at x
            replace hP := hP.resolve_left q1
            clear q1
            rcases Nat.eq_zero_or_pos t.size with h0 | h0
            · have et : t = str [] := by
                have hl0 : (P4.bl t).length = 0 := by rw [P4.bl_len]; exact h0
                have : P4.bl t = [] := List.length_eq_zero_iff.1 hl0
                rw [← this]; exact (str_bl t).symm
              have hK : P21.kind (P4.bl t) ≠ 4 ∧ P21.kind (P4.bl t) ≠ 5 := by
                rcases hP with ⟨c, u, e, _⟩ | h
                · rw [et] at e; exact absurd e (List.cons_ne_nil _ _).symm
                · exact h
              have te : t.toList = [] := by rw [et]; exact str_toList []
              clear et h0 t1
              have HK := Lib.hid hK
              clear hP hK
              have hF7 : CellsIn 1 (fun b : ByteArray => [Value.string b]) (wr.alloc (.cells #[.string t] 9)) (some ⟨wr.heap.size, 0, none⟩) [t] := cells_new (m := 1) (f := fun b : ByteArray => [Value.string b]) (fun _ => rfl) wr _ [t]
              have hb7a := hb.alloc hb.size (.cells #[.string t] 9)
              have hE7a := hE.alloc (.cells #[.string t] 9)
              clear hE
              have cZ7 := Lib.hid (zone_any _ 1 _ _ (by show 1 ≤ 1000; decide) hF7)
              clear hF7
              go_wp2_with fail
              refine cZ7.out.mono ?_
              rintro e w7 ⟨A7, c7, rfl, hC7, hc⟩
              have hb7 := hb7a.trans (hc.mono hb7a.size)
              have hZ7 : CellsIn 2 ZV.cells (w7.alloc (.cells #[.string ⟨#[90]⟩, .slice A7 1 c7] 87)) (some ⟨w7.heap.size, 0, none⟩) [(⟨⟨#[90]⟩, A7, c7, [mkE t]⟩ : ZV)] := cells_new (m := 2) (f := ZV.cells) (fun _ => rfl) w7 _ [(⟨⟨#[90]⟩, A7, c7, [mkE t]⟩ : ZV)]
              have hC7' := hC7.alloc (.cells #[.string ⟨#[90]⟩, .slice A7 1 c7] 87)
              have hb7z := hb7.alloc hb7.size (.cells #[.string ⟨#[90]⟩, .slice A7 1 c7] 87)
              have hE7z := (hE7a.below hc hE7a.lt).alloc (.cells #[.string ⟨#[90]⟩, .slice A7 1 c7] 87)
              clear hE7a
              have hv7 := HV.out.below hb7z
              have cI7 := Lib.hid (is24_any (srcZ (some ⟨w7.heap.size, 0, none⟩) 1 [(⟨⟨#[90]⟩, A7, c7, [mkE t]⟩ : ZV)]) 0 0 0 0 0 0 _ (srcZ_in hZ7 hC7') (srcZ_small (by show 1 ≤ 1000000; decide) (fun e he => by simp at he; rcases he with rfl; have := HS.out; show (ByteArray.size _) ≤ 1000000; simp only [mkE]; omega)) hv7 (ok_at HK.out.1 HK.out.2 1 (by decide)) (ok_at HK.out.1 HK.out.2 2 (by decide)) (ok_at HK.out.1 HK.out.2 3 (by decide)))
              clear hZ7 hC7 hC7' hv7 hb7 hc cZ7
              go_wp2_with fail
              refine cI7.out.mono ?_
              rintro e w8 ⟨rfl, hc⟩
              have hb8 := hb7z.trans (hc.mono hb7z.size)
              have hE8 := hE7z.below hc hE7z.lt
              clear hE7z
              clear hc hb7z cI7 hb7a
              go_wp2_with fail
              go_roundw
              case rel => exact ⟨k + 1, by omega, by go_num, hE8, hb8⟩
              case measure => simp [intOf]; omega
            · have h0i : (0 : Int) < (t.size : Int) := by omega
              obtain ⟨a, ha⟩ : ∃ a : Int, ((t[0]'h0).toNat : Int) = a := ⟨_, rfl⟩
              have hA : ∀ h, ((t[0]'h).toNat : Int) = a := fun _ => ha
              have te := str_ne (l := P4.bl t) (by rw [P4.bl_len]; exact h0)
              have te1 : t.toList.isEmpty = false := te.1
              have te2 : ¬ t.toList = [] := te.2
              have hhd : (P4.bl t)[0]? = some (t[0]'h0) := P4.bl_get t 0 h0
              have hca : a = 43 ∨ a = 45 ∨ (a ≠ 43 ∧ a ≠ 45) := by omega
              rcases hca with rfl | rfl | ⟨q3, q4⟩
              · by_cases qs : t = s
                · have ts : (t.toList == s.toList) = true := by rw [qs]; exact beq_self_eq_true _
                  clear qs te hhd ha
                  clear hP
                  go_wp2_with fail
                  go_roundw
                  case rel => exact ⟨k + 1, by omega, by go_num, hE, hb⟩
                  case measure => simp [intOf]; omega
                · have ts : (t.toList == s.toList) = false := eq_b t s qs
                  have hK : P21.kind (P4.bl t) ≠ 4 ∧ P21.kind (P4.bl t) ≠ 5 := by
                    rcases hP with ⟨c, u, _, _, e⟩ | h
                    · exact absurd (by rw [← str_bl t, ← str_bl s]; exact congrArg str e) qs
                    · exact h
                  clear qs te hhd ha
                  have HK := Lib.hid hK
                  clear hP hK
                  have hF7 : CellsIn 1 (fun b : ByteArray => [Value.string b]) (wr.alloc (.cells #[.string t] 9)) (some ⟨wr.heap.size, 0, none⟩) [t] := cells_new (m := 1) (f := fun b : ByteArray => [Value.string b]) (fun _ => rfl) wr _ [t]
                  have hb7a := hb.alloc hb.size (.cells #[.string t] 9)
                  have hE7a := hE.alloc (.cells #[.string t] 9)
                  clear hE
                  have cZ7 := Lib.hid (zone_any _ 1 _ _ (by show 1 ≤ 1000; decide) hF7)
                  clear hF7
                  go_wp2_with fail
                  refine cZ7.out.mono ?_
                  rintro e w7 ⟨A7, c7, rfl, hC7, hc⟩
                  have hb7 := hb7a.trans (hc.mono hb7a.size)
                  have hZ7 : CellsIn 2 ZV.cells (w7.alloc (.cells #[.string ⟨#[90]⟩, .slice A7 1 c7] 87)) (some ⟨w7.heap.size, 0, none⟩) [(⟨⟨#[90]⟩, A7, c7, [mkE t]⟩ : ZV)] := cells_new (m := 2) (f := ZV.cells) (fun _ => rfl) w7 _ [(⟨⟨#[90]⟩, A7, c7, [mkE t]⟩ : ZV)]
                  have hC7' := hC7.alloc (.cells #[.string ⟨#[90]⟩, .slice A7 1 c7] 87)
                  have hb7z := hb7.alloc hb7.size (.cells #[.string ⟨#[90]⟩, .slice A7 1 c7] 87)
                  have hE7z := (hE7a.below hc hE7a.lt).alloc (.cells #[.string ⟨#[90]⟩, .slice A7 1 c7] 87)
                  clear hE7a
                  have hv7 := HV.out.below hb7z
                  have cI7 := Lib.hid (is24_any (srcZ (some ⟨w7.heap.size, 0, none⟩) 1 [(⟨⟨#[90]⟩, A7, c7, [mkE t]⟩ : ZV)]) 0 0 0 0 0 0 _ (srcZ_in hZ7 hC7') (srcZ_small (by show 1 ≤ 1000000; decide) (fun e he => by simp at he; rcases he with rfl; have := HS.out; show (ByteArray.size _) ≤ 1000000; simp only [mkE]; omega)) hv7 (ok_at HK.out.1 HK.out.2 1 (by decide)) (ok_at HK.out.1 HK.out.2 2 (by decide)) (ok_at HK.out.1 HK.out.2 3 (by decide)))
                  clear hZ7 hC7 hC7' hv7 hb7 hc cZ7
                  go_wp2_with fail
                  refine cI7.out.mono ?_
                  rintro e w8 ⟨rfl, hc⟩
                  have hb8 := hb7z.trans (hc.mono hb7z.size)
                  have hE8 := hE7z.below hc hE7z.lt
                  clear hE7z
                  clear hc hb7z cI7 hb7a
                  go_wp2_with fail
                  go_roundw
                  case rel => exact ⟨k + 1, by omega, by go_num, hE8, hb8⟩
                  case measure => simp [intOf]; omega
              · by_cases qs : t = s
                · have ts : (t.toList == s.toList) = true := by rw [qs]; exact beq_self_eq_true _
                  clear qs te hhd ha
                  clear hP
                  go_wp2_with fail
                  go_roundw
                  case rel => exact ⟨k + 1, by omega, by go_num, hE, hb⟩
                  case measure => simp [intOf]; omega
                · have ts : (t.toList == s.toList) = false := eq_b t s qs
                  have hK : P21.kind (P4.bl t) ≠ 4 ∧ P21.kind (P4.bl t) ≠ 5 := by
                    rcases hP with ⟨c, u, _, _, e⟩ | h
                    · exact absurd (by rw [← str_bl t, ← str_bl s]; exact congrArg str e) qs
                    · exact h
                  clear qs te hhd ha
                  have HK := Lib.hid hK
                  clear hP hK
                  have hF7 : CellsIn 1 (fun b : ByteArray => [Value.string b]) (wr.alloc (.cells #[.string t] 9)) (some ⟨wr.heap.size, 0, none⟩) [t] := cells_new (m := 1) (f := fun b : ByteArray => [Value.string b]) (fun _ => rfl) wr _ [t]
                  have hb7a := hb.alloc hb.size (.cells #[.string t] 9)
                  have hE7a := hE.alloc (.cells #[.string t] 9)
                  clear hE
                  have cZ7 := Lib.hid (zone_any _ 1 _ _ (by show 1 ≤ 1000; decide) hF7)
                  clear hF7
                  go_wp2_with fail
                  refine cZ7.out.mono ?_
                  rintro e w7 ⟨A7, c7, rfl, hC7, hc⟩
                  have hb7 := hb7a.trans (hc.mono hb7a.size)
                  have hZ7 : CellsIn 2 ZV.cells (w7.alloc (.cells #[.string ⟨#[90]⟩, .slice A7 1 c7] 87)) (some ⟨w7.heap.size, 0, none⟩) [(⟨⟨#[90]⟩, A7, c7, [mkE t]⟩ : ZV)] := cells_new (m := 2) (f := ZV.cells) (fun _ => rfl) w7 _ [(⟨⟨#[90]⟩, A7, c7, [mkE t]⟩ : ZV)]
                  have hC7' := hC7.alloc (.cells #[.string ⟨#[90]⟩, .slice A7 1 c7] 87)
                  have hb7z := hb7.alloc hb7.size (.cells #[.string ⟨#[90]⟩, .slice A7 1 c7] 87)
                  have hE7z := (hE7a.below hc hE7a.lt).alloc (.cells #[.string ⟨#[90]⟩, .slice A7 1 c7] 87)
                  clear hE7a
                  have hv7 := HV.out.below hb7z
                  have cI7 := Lib.hid (is24_any (srcZ (some ⟨w7.heap.size, 0, none⟩) 1 [(⟨⟨#[90]⟩, A7, c7, [mkE t]⟩ : ZV)]) 0 0 0 0 0 0 _ (srcZ_in hZ7 hC7') (srcZ_small (by show 1 ≤ 1000000; decide) (fun e he => by simp at he; rcases he with rfl; have := HS.out; show (ByteArray.size _) ≤ 1000000; simp only [mkE]; omega)) hv7 (ok_at HK.out.1 HK.out.2 1 (by decide)) (ok_at HK.out.1 HK.out.2 2 (by decide)) (ok_at HK.out.1 HK.out.2 3 (by decide)))
                  clear hZ7 hC7 hC7' hv7 hb7 hc cZ7
                  go_wp2_with fail
                  refine cI7.out.mono ?_
                  rintro e w8 ⟨rfl, hc⟩
                  have hb8 := hb7z.trans (hc.mono hb7z.size)
                  have hE8 := hE7z.below hc hE7z.lt
                  clear hE7z
                  clear hc hb7z cI7 hb7a
                  go_wp2_with fail
                  go_roundw
                  case rel => exact ⟨k + 1, by omega, by go_num, hE8, hb8⟩
                  case measure => simp [intOf]; omega
              · have b3 : (a == 43) = false := by rw [beq_eq_false_iff_ne]; exact q3
                have b4 : (a == 45) = false := by rw [beq_eq_false_iff_ne]; exact q4
                have hK : P21.kind (P4.bl t) ≠ 4 ∧ P21.kind (P4.bl t) ≠ 5 := by
                  rcases hP with ⟨c, u, e, hc, _⟩ | h
                  · rw [e, List.getElem?_cons_zero] at hhd
                    injection hhd with hhd
                    rw [← hhd] at ha
                    rcases hc with rfl | rfl
                    · exact absurd ha.symm q3
                    · exact absurd ha.symm q4
                  · exact h
                clear q3 q4 te hhd ha
                have HK := Lib.hid hK
                clear hP hK
                have hF7 : CellsIn 1 (fun b : ByteArray => [Value.string b]) (wr.alloc (.cells #[.string t] 9)) (some ⟨wr.heap.size, 0, none⟩) [t] := cells_new (m := 1) (f := fun b : ByteArray => [Value.string b]) (fun _ => rfl) wr _ [t]
                have hb7a := hb.alloc hb.size (.cells #[.string t] 9)
                have hE7a := hE.alloc (.cells #[.string t] 9)
                clear hE
                have cZ7 := Lib.hid (zone_any _ 1 _ _ (by show 1 ≤ 1000; decide) hF7)
                clear hF7
                go_wp2_with fail
                refine cZ7.out.mono ?_
                rintro e w7 ⟨A7, c7, rfl, hC7, hc⟩
                have hb7 := hb7a.trans (hc.mono hb7a.size)
                have hZ7 : CellsIn 2 ZV.cells (w7.alloc (.cells #[.string ⟨#[90]⟩, .slice A7 1 c7] 87)) (some ⟨w7.heap.size, 0, none⟩) [(⟨⟨#[90]⟩, A7, c7, [mkE t]⟩ : ZV)] := cells_new (m := 2) (f := ZV.cells) (fun _ => rfl) w7 _ [(⟨⟨#[90]⟩, A7, c7, [mkE t]⟩ : ZV)]
                have hC7' := hC7.alloc (.cells #[.string ⟨#[90]⟩, .slice A7 1 c7] 87)
                have hb7z := hb7.alloc hb7.size (.cells #[.string ⟨#[90]⟩, .slice A7 1 c7] 87)
                have hE7z := (hE7a.below hc hE7a.lt).alloc (.cells #[.string ⟨#[90]⟩, .slice A7 1 c7] 87)
                clear hE7a
                have hv7 := HV.out.below hb7z
                have cI7 := Lib.hid (is24_any (srcZ (some ⟨w7.heap.size, 0, none⟩) 1 [(⟨⟨#[90]⟩, A7, c7, [mkE t]⟩ : ZV)]) 0 0 0 0 0 0 _ (srcZ_in hZ7 hC7') (srcZ_small (by show 1 ≤ 1000000; decide) (fun e he => by simp at he; rcases he with rfl; have := HS.out; show (ByteArray.size _) ≤ 1000000; simp only [mkE]; omega)) hv7 (ok_at HK.out.1 HK.out.2 1 (by decide)) (ok_at HK.out.1 HK.out.2 2 (by decide)) (ok_at HK.out.1 HK.out.2 3 (by decide)))
                clear hZ7 hC7 hC7' hv7 hb7 hc cZ7
                go_wp2_with fail
                refine cI7.out.mono ?_
                rintro e w8 ⟨rfl, hc⟩
                have hb8 := hb7z.trans (hc.mono hb7z.size)
                have hE8 := hE7z.below hc hE7z.lt
                clear hE7z
                clear hc hb7z cI7 hb7a
                go_wp2_with fail
                go_roundw
                case rel => exact ⟨k + 1, by omega, by go_num, hE8, hb8⟩
                case measure => simp [intOf]; omega
        · obtain rfl : k = 9 := by omega
          clear hE
          have hv9 := HV.out.below hb
          go_wp2_with fail
          refine (works24_any _ hv9).mono ?_
          rintro e wE ⟨rfl, hc⟩
          have hb9 := hb.trans (hc.mono hb.size)
          go_wp2_with fail
          go_ret
          exact ⟨rfl, hb9⟩
end Go.Proofs.YtbajlkpjemandaaDoor
