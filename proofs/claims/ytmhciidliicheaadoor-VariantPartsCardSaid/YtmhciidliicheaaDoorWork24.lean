/- The walk of works (chapter 24): the examples of the chapter hold. -/
import Derived.Test.YtmhciidliicheaaDoorVar24g
namespace Go.Proofs.YtmhciidliicheaaDoor
open Go.RowKit Go.Lib
set_option linter.unusedVariables false

theorem cells_new {α : Type} {m : Nat} {f : α → List Value} (hf : ∀ a, (f a).length = m) (V : World) (t : TypeId) (L : List α) : CellsIn m f (V.alloc (.cells (L.flatMap f).toArray t)) (some ⟨V.heap.size, 0, none⟩) L := by
  intro k r hr
  have hB := Blk.new V t (L.flatMap f).toArray
  refine ⟨V.heap.size, 0, rfl, hB.lt, fun j u hu => ?_⟩
  have hj : j < m := by rw [← hf r]; exact (List.getElem?_eq_some_iff.mp hu).1
  rw [Nat.zero_add, hB.cell, List.getElem?_toArray, flat_at hf L k j r hj hr]
  exact hu
def srcR (A : Option Addr) (c : Nat) (L : List RV) : SV := ⟨A, c, L, none, 0, [], none, 0, [], none, 0, []⟩
def srcZ (A : Option Addr) (c : Nat) (L : List ZV) : SV := ⟨none, 0, [], A, c, L, none, 0, [], none, 0, []⟩
def srcH (A : Option Addr) (c : Nat) (L : List ByteArray) : SV := ⟨none, 0, [], none, 0, [], none, 0, [], A, c, L⟩
theorem srcR_in {w : World} {A : Option Addr} {c : Nat} {L : List RV} (h : CellsIn 11 RV.cells w A L) : SrcIn w (srcR A c L) := ⟨h, CellsIn.nil _ _, CellsIn.nil _ _, CellsIn.nil _ _, fun z hz => by simp [srcR] at hz⟩
theorem srcH_in {w : World} {A : Option Addr} {c : Nat} {L : List ByteArray} (h : CellsIn 1 (fun b : ByteArray => [Value.string b]) w A L) : SrcIn w (srcH A c L) := ⟨CellsIn.nil _ _, CellsIn.nil _ _, CellsIn.nil _ _, h, fun z hz => by simp [srcH] at hz⟩
theorem srcZ_in {w : World} {A : Option Addr} {c : Nat} {z : ZV} (h : CellsIn 2 ZV.cells w A [z]) (he : CellsIn 13 EV.cells w z.A z.eras) : SrcIn w (srcZ A c [z]) := ⟨CellsIn.nil _ _, h, CellsIn.nil _ _, CellsIn.nil _ _, fun y hy => by simp [srcZ] at hy; subst hy; exact he⟩
theorem srcZ_small {A : Option Addr} {c : Nat} {z : ZV} (h : z.eras.length ≤ 1000000) (hf : ∀ e ∈ z.eras, e.fmt.size ≤ 1000000) : SmallS (srcZ A c [z]) :=
  ⟨by simp [srcZ], by simp [srcZ], by simp [srcZ], fun y hy => by simp [srcZ] at hy; subst hy; exact h, fun y hy e he => by simp [srcZ] at hy; subst hy; exact hf e he⟩
/-- one zone alone, by the first era that is not allowed -/
theorem check_one {A : Option Addr} {c : Nat} {z : ZV} {n : Int} (hn : P24.isForm n = true) (p1 p2 p3 e : Int) (h : (P24.first (P24.badV n) z.eras < 0 ∧ e = 0) ∨ (0 ≤ P24.first (P24.badV n) z.eras ∧ e = 17 ∧ p1 = 2 ∧ p2 = 0 ∧ p3 = P24.first (P24.badV n) z.eras)) : P24.check (srcZ A c [z]) n = atOf e p1 p2 p3 := by
  rcases h with ⟨h, rfl⟩ | ⟨h, rfl, rfl, rfl, rfl⟩
  · rw [check_none hn (by simp [srcZ, P24.first]) (by show P24.zb n [z] 0 = none; rw [P24.zb, if_neg (by omega)]; rfl)]
    simp [srcZ, atOf]
  · rw [check_zone (i := 0) (k := P24.first (P24.badV n) z.eras) hn (by simp [srcZ, P24.first]) (by show P24.zb n [z] 0 = _; rw [P24.zb, if_pos h])]
    simp [atOf]
theorem check_rl {A : Option Addr} {c : Nat} {r : RV} (h : r.save < 0) : P24.check (srcR A c [r]) 1 = atOf 0 1 0 0 ∧ P24.check (srcR A c [r]) 2 = atOf 0 1 0 0 ∧ P24.check (srcR A c [r]) 3 = atOf 17 1 0 0 := by
  refine ⟨?_, ?_, ?_⟩ <;> simp [P24.check, srcR, P24.first, P24.negR, P24.neg, P24.isForm, P24.zb, P24.shift, atOf, h]
theorem check_sh {A : Option Addr} {c : Nat} {x : ByteArray} : P24.check (srcH A c [x]) 1 = atOf 17 4 0 0 ∧ P24.check (srcH A c [x]) 2 = atOf 17 4 0 0 ∧ P24.check (srcH A c [x]) 3 = atOf 0 4 0 0 := by
  refine ⟨?_, ?_, ?_⟩ <;> simp [P24.check, srcH, P24.first, P24.isForm, P24.zb, P24.shift, atOf]
theorem k_GMT : P21.kind [71, 77, 84] = 1 := by decide +kernel
theorem k_56 : P21.kind [43, 48, 53, 47, 43, 48, 54] = 5 := by decide +kernel
theorem badV_mk (n : Int) (f : ByteArray) : P24.badV n (mkE f) = ((decide (P21.kind (P4.bl f) = 4) && !P24.made n) || (decide (P21.kind (P4.bl f) = 5) && !P24.num n)) := rfl
theorem first2 (n : Int) : P24.first (P24.badV n) [mkE ⟨#[71, 77, 84]⟩, mkE ⟨#[37, 122]⟩] = if P24.made n = true then -1 else 1 := by
  rw [P24.first, P24.first, P24.first, badV_mk, badV_mk, show P4.bl ⟨#[71, 77, 84]⟩ = [71, 77, 84] from rfl, show P4.bl ⟨#[37, 122]⟩ = [37, 122] from rfl, k_GMT, P21.kind_z]
  cases P24.made n <;> simp
theorem first1 (n : Int) : P24.first (P24.badV n) [mkE ⟨#[43, 48, 53, 47, 43, 48, 54]⟩] = if P24.num n = true then -1 else 0 := by
  rw [P24.first, P24.first, badV_mk, show P4.bl ⟨#[43, 48, 53, 47, 43, 48, 54]⟩ = [43, 48, 53, 47, 43, 48, 54] from rfl, k_56]
  cases P24.num n <;> simp
theorem main_parse : P24.parse [109, 97, 105, 110] = (2, 0) ∧ P24.parse [77, 97, 105, 110] = (0, 5) := by decide +kernel
set_option maxRecDepth 100000 in
set_option maxHeartbeats 16000000 in
theorem works24_any (w : World) (hv : Vars24 w) :
    Calls Tryd.prog 28 #[] w fun e w' => e = .returned (.bool true) ∧ Below w.heap.size w w' := by
  have cC : Hid (∀ n, n = 0 ∨ n = 4 → ∀ W, Vars24 W → Calls Tryd.prog 27 #[.agg #[.slice none 0 0, .slice none 0 0, .slice none 0 0, .slice none 0 0], .int .i64 n] W fun e w' => e = .returned (.tuple #[.agg #[.int .i64 0, .int .i64 0, .int .i64 0], .int .i64 2]) ∧ Below W.heap.size W w') := fun n hn W h => by
    have q := vcheck_any (srcR none 0 []) n W (srcR_in (CellsIn.nil _ _)) ⟨by simp [srcR], by simp [srcR], by simp [srcR], fun z hz => by simp [srcR] at hz, fun z hz => by simp [srcR] at hz⟩ h
    rw [check_out (row_out (by omega)).2] at q; exact q
  have cP1 : Hid (∀ W, Vars24 W → Calls Tryd.prog 30 #[.string ⟨#[109, 97, 105, 110]⟩] W fun e w' => e = .returned (.tuple #[.int .i64 2, .int .i64 0]) ∧ Below W.heap.size W w') := fun W h => by
    have q := parse24_any ⟨#[109, 97, 105, 110]⟩ W h; rw [show P4.bl ⟨#[109, 97, 105, 110]⟩ = [109, 97, 105, 110] from rfl, main_parse.1] at q; exact q
  have cP2 : Hid (∀ W, Vars24 W → Calls Tryd.prog 30 #[.string ⟨#[77, 97, 105, 110]⟩] W fun e w' => e = .returned (.tuple #[.int .i64 0, .int .i64 5]) ∧ Below W.heap.size W w') := fun W h => by
    have q := parse24_any ⟨#[77, 97, 105, 110]⟩ W h; rw [show P4.bl ⟨#[77, 97, 105, 110]⟩ = [77, 97, 105, 110] from rfl, main_parse.2] at q; exact q
  have cW3 : Hid (∀ W, Vars24 W → Calls Tryd.prog 29 #[.int .i64 3] W fun e w' => e = .returned (.string (str [114, 101, 97, 114, 103, 117, 97, 114, 100])) ∧ Below W.heap.size W w') := fun W h => word_any 3 W h
  have cW4 : Hid (∀ W, Vars24 W → Calls Tryd.prog 29 #[.int .i64 4] W fun e w' => e = .returned (.string (str [])) ∧ Below W.heap.size W w') := fun W h => word_any 4 W h
  have n1 := str_toList [114, 101, 97, 114, 103, 117, 97, 114, 100]
  have n2 := str_toList []
  generalize str [114, 101, 97, 114, 103, 117, 97, 114, 100] = SR at cW3 n1
  generalize str [] = SN at cW4 n2
  have N1 := Lib.hid n1
  have N2 := Lib.hid n2
  clear n1 n2
  go_enter Tryd.func28, Tryd.ntmps28
  go_wp2_with fail
  refine (cC.out 0 (.inl rfl) _ hv).mono ?_
  rintro e w1 ⟨rfl, hc⟩
  have hb1 := hc.alloc hc.size (.cells #[.int .i64 0, .int .i64 0, .int .i64 0] 65)
  have hv1 := hv.below hb1
  clear hc
  go_wp2_with fail
  refine (cC.out 4 (.inr rfl) _ hv1).mono ?_
  rintro e w2 ⟨rfl, hc⟩
  have hb2 := (hb1.trans (hc.mono hb1.size)).alloc (Nat.le_trans hb1.size hc.size) (.cells #[.int .i64 0, .int .i64 0, .int .i64 0] 65)
  have hv2 := hv.below hb2
  clear hc hb1 hv1 cC
  go_wp2_with fail
  refine (cP1.out _ hv2).mono ?_
  rintro e w3 ⟨rfl, hc⟩
  have hb3 := hb2.trans (hc.mono hb2.size)
  have hv3 := hv.below hb3
  clear hc hb2 hv2 cP1
  go_wp2_with fail
  refine (cP2.out _ hv3).mono ?_
  rintro e w4 ⟨rfl, hc⟩
  have hb4 := hb3.trans (hc.mono hb3.size)
  clear hc hb3 hv3 cP2
  have hR5 : CellsIn 11 RV.cells (w4.alloc (.cells #[.string ⟨#[]⟩, .int .i64 0, .int .i64 0, .int .i64 0, .int .i64 0, .int .i64 0, .int .i64 0, .int .i64 0, .int .i64 0, .int .i64 (-3600), .string ⟨#[]⟩] 38)) (some ⟨w4.heap.size, 0, none⟩) [(⟨⟨#[]⟩, 0, 0, 0, 0, 0, 0, 0, 0, -3600, ⟨#[]⟩⟩ : RV)] := cells_new (m := 11) (f := RV.cells) (fun _ => rfl) w4 _ [(⟨⟨#[]⟩, 0, 0, 0, 0, 0, 0, 0, 0, -3600, ⟨#[]⟩⟩ : RV)]
  have hb5 := hb4.alloc hb4.size (.cells #[.string ⟨#[]⟩, .int .i64 0, .int .i64 0, .int .i64 0, .int .i64 0, .int .i64 0, .int .i64 0, .int .i64 0, .int .i64 0, .int .i64 (-3600), .string ⟨#[]⟩] 38)
  have hv5 := hv.below hb5
  have cI1 := Lib.hid (is24_any (srcR (some ⟨w4.heap.size, 0, none⟩) 1 [(⟨⟨#[]⟩, 0, 0, 0, 0, 0, 0, 0, 0, -3600, ⟨#[]⟩⟩ : RV)]) 1 0 0 0 0 17 _ (srcR_in hR5) ⟨by simp [srcR], by simp [srcR], by simp [srcR], fun z hz => by simp [srcR] at hz, fun z hz => by simp [srcR] at hz⟩ hv5 (check_rl (by decide)).1 (check_rl (by decide)).2.1 (check_rl (by decide)).2.2)
  clear hR5 hv5 hb4
  go_wp2_with fail
  refine cI1.out.mono ?_
  rintro e w6 ⟨rfl, hc⟩
  have hb6 := hb5.trans (hc.mono hb5.size)
  clear hc hb5 cI1
  have hF7 : CellsIn 1 (fun b : ByteArray => [Value.string b]) (w6.alloc (.cells #[.string ⟨#[71, 77, 84]⟩, .string ⟨#[37, 122]⟩] 9)) (some ⟨w6.heap.size, 0, none⟩) [(⟨#[71, 77, 84]⟩ : ByteArray), (⟨#[37, 122]⟩ : ByteArray)] := cells_new (m := 1) (f := fun b : ByteArray => [Value.string b]) (fun _ => rfl) w6 _ [(⟨#[71, 77, 84]⟩ : ByteArray), (⟨#[37, 122]⟩ : ByteArray)]
  have hb7a := hb6.alloc hb6.size (.cells #[.string ⟨#[71, 77, 84]⟩, .string ⟨#[37, 122]⟩] 9)
  have cZ7 := Lib.hid (zone_any _ 2 _ _ (by decide) hF7)
  clear hF7 hb6
  go_wp2_with fail
  refine cZ7.out.mono ?_
  rintro e w7 ⟨A7, c7, rfl, hC7, hc⟩
  have hb7 := hb7a.trans (hc.mono hb7a.size)
  clear hc hb7a cZ7
  have hZ7 : CellsIn 2 ZV.cells (w7.alloc (.cells #[.string ⟨#[90]⟩, .slice A7 2 c7] 87)) (some ⟨w7.heap.size, 0, none⟩) [(⟨⟨#[90]⟩, A7, c7, [mkE ⟨#[71, 77, 84]⟩, mkE ⟨#[37, 122]⟩]⟩ : ZV)] := cells_new (m := 2) (f := ZV.cells) (fun _ => rfl) w7 _ [(⟨⟨#[90]⟩, A7, c7, [mkE ⟨#[71, 77, 84]⟩, mkE ⟨#[37, 122]⟩]⟩ : ZV)]
  have hC7' := hC7.alloc (.cells #[.string ⟨#[90]⟩, .slice A7 2 c7] 87)
  have hb7z := hb7.alloc hb7.size (.cells #[.string ⟨#[90]⟩, .slice A7 2 c7] 87)
  have hv7 := hv.below hb7z
  have cI7 := Lib.hid (is24_any (srcZ (some ⟨w7.heap.size, 0, none⟩) 1 [(⟨⟨#[90]⟩, A7, c7, [mkE ⟨#[71, 77, 84]⟩, mkE ⟨#[37, 122]⟩]⟩ : ZV)]) 2 0 1 0 17 17 _ (srcZ_in hZ7 hC7') (srcZ_small (by show 2 ≤ 1000000; decide) (fun e he => by simp at he; rcases he with rfl | rfl <;> decide)) hv7 (check_one rfl _ _ _ _ (.inl ⟨by rw [first2]; decide, rfl⟩)) (check_one rfl _ _ _ _ (.inr ⟨by rw [first2]; decide, rfl, rfl, rfl, by rw [first2]; decide⟩)) (check_one rfl _ _ _ _ (.inr ⟨by rw [first2]; decide, rfl, rfl, rfl, by rw [first2]; decide⟩)))
  clear hZ7 hC7 hC7' hv7 hb7
  go_wp2_with fail
  refine cI7.out.mono ?_
  rintro e w8 ⟨rfl, hc⟩
  have hb8 := hb7z.trans (hc.mono hb7z.size)
  clear hc hb7z cI7
  have hF9 : CellsIn 1 (fun b : ByteArray => [Value.string b]) (w8.alloc (.cells #[.string ⟨#[43, 48, 53, 47, 43, 48, 54]⟩] 9)) (some ⟨w8.heap.size, 0, none⟩) [(⟨#[43, 48, 53, 47, 43, 48, 54]⟩ : ByteArray)] := cells_new (m := 1) (f := fun b : ByteArray => [Value.string b]) (fun _ => rfl) w8 _ [(⟨#[43, 48, 53, 47, 43, 48, 54]⟩ : ByteArray)]
  have hb9a := hb8.alloc hb8.size (.cells #[.string ⟨#[43, 48, 53, 47, 43, 48, 54]⟩] 9)
  have cZ9 := Lib.hid (zone_any _ 1 _ _ (by decide) hF9)
  clear hF9 hb8
  go_wp2_with fail
  refine cZ9.out.mono ?_
  rintro e w9 ⟨A9, c9, rfl, hC9, hc⟩
  have hb9 := hb9a.trans (hc.mono hb9a.size)
  clear hc hb9a cZ9
  have hZ9 : CellsIn 2 ZV.cells (w9.alloc (.cells #[.string ⟨#[90]⟩, .slice A9 1 c9] 87)) (some ⟨w9.heap.size, 0, none⟩) [(⟨⟨#[90]⟩, A9, c9, [mkE ⟨#[43, 48, 53, 47, 43, 48, 54]⟩]⟩ : ZV)] := cells_new (m := 2) (f := ZV.cells) (fun _ => rfl) w9 _ [(⟨⟨#[90]⟩, A9, c9, [mkE ⟨#[43, 48, 53, 47, 43, 48, 54]⟩]⟩ : ZV)]
  have hC9' := hC9.alloc (.cells #[.string ⟨#[90]⟩, .slice A9 1 c9] 87)
  have hb9z := hb9.alloc hb9.size (.cells #[.string ⟨#[90]⟩, .slice A9 1 c9] 87)
  have hv9 := hv.below hb9z
  have cI9 := Lib.hid (is24_any (srcZ (some ⟨w9.heap.size, 0, none⟩) 1 [(⟨⟨#[90]⟩, A9, c9, [mkE ⟨#[43, 48, 53, 47, 43, 48, 54]⟩]⟩ : ZV)]) 2 0 0 17 0 0 _ (srcZ_in hZ9 hC9') (srcZ_small (by show 1 ≤ 1000000; decide) (fun e he => by simp at he; rcases he with rfl <;> decide)) hv9 (check_one rfl _ _ _ _ (.inr ⟨by rw [first1]; decide, rfl, rfl, rfl, by rw [first1]; decide⟩)) (check_one rfl _ _ _ _ (.inl ⟨by rw [first1]; decide, rfl⟩)) (check_one rfl _ _ _ _ (.inl ⟨by rw [first1]; decide, rfl⟩)))
  clear hZ9 hC9 hC9' hv9 hb9
  go_wp2_with fail
  refine cI9.out.mono ?_
  rintro e w10 ⟨rfl, hc⟩
  have hb10 := hb9z.trans (hc.mono hb9z.size)
  clear hc hb9z cI9
  have hH : CellsIn 1 (fun b : ByteArray => [Value.string b]) (w10.alloc (.cells #[.string ⟨#[82]⟩] 9)) (some ⟨w10.heap.size, 0, none⟩) [(⟨#[82]⟩ : ByteArray)] := cells_new (m := 1) (f := fun b : ByteArray => [Value.string b]) (fun _ => rfl) w10 _ [(⟨#[82]⟩ : ByteArray)]
  have hb11 := hb10.alloc hb10.size (.cells #[.string ⟨#[82]⟩] 9)
  have hv11 := hv.below hb11
  have cI11 := Lib.hid (is24_any (srcH (some ⟨w10.heap.size, 0, none⟩) 1 [(⟨#[82]⟩ : ByteArray)]) 4 0 0 17 17 0 _ (srcH_in hH) ⟨by simp [srcH], by simp [srcH], by simp [srcH], fun z hz => by simp [srcH] at hz, fun z hz => by simp [srcH] at hz⟩ hv11 check_sh.1 check_sh.2.1 check_sh.2.2)
  clear hH hv11 hb10
  go_wp2_with fail
  refine cI11.out.mono ?_
  rintro e w12 ⟨rfl, hc⟩
  have hb12 := hb11.trans (hc.mono hb11.size)
  have hv12 := hv.below hb12
  have n1 := N1.out
  clear hc hb11 cI11
  go_wp2_with fail
  refine (cW3.out _ hv12).mono ?_
  rintro e w13 ⟨rfl, hc⟩
  have hb13 := hb12.trans (hc.mono hb12.size)
  have hv13 := hv.below hb13
  have n2 := N2.out
  clear hc hb12 hv12 cW3
  go_wp2_with fail
  refine (cW4.out _ hv13).mono ?_
  rintro e w14 ⟨rfl, hc⟩
  have hb14 := hb13.trans (hc.mono hb13.size)
  clear hc hb13 hv13 cW4
  go_wp2_with fail
  go_ret
  exact ⟨rfl, hb14⟩
end Go.Proofs.YtmhciidliicheaaDoor
