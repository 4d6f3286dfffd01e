/- The walk of works (chapter 21): the examples of the chapter hold. -/
import Derived.Test.YtmhciidliicheaaDoorFmt21h
import Derived.Test.YtmhciidliicheaaDoorFlat21
namespace Go.Proofs.YtmhciidliicheaaDoor
open Go.RowKit Go.Lib
set_option linter.unusedVariables false

def tabK21 : List (List UInt8 × Int) := [([67, 69, 84], 1), ([67, 69, 84, 47, 67, 69, 83, 84], 2), ([69, 37, 115, 84], 3), ([37, 115], 3), ([37, 122], 4), ([43, 48, 53], 5), ([45, 48, 51, 47, 45, 48, 50], 5), ([67, 69], 0), ([65, 47, 66], 0), ([69, 37, 122, 84], 0), ([37, 115, 37, 115], 0), ([43, 53], 0), ([43, 48, 53, 47, 67, 69, 84], 0), ([], 0)]
theorem tabK21_holds : ∀ x ∈ tabK21, P21.kind x.1 = x.2 ∧ x.1.length ≤ 10 := by decide +kernel
def kcell (x : List UInt8 × Int) : List Value := [.string (str x.1), .int .i64 x.2]
def arrK21 : Array Value := (tabK21.flatMap kcell).toArray
theorem arrK21_at (k j : Nat) (x : List UInt8 × Int) (hj : j < 2) (h : tabK21[k]? = some x) : arrK21[k * 2 + j]? = (kcell x)[j]? := by
  unfold arrK21
  rw [List.getElem?_toArray]
  exact flat_at (m := 2) (fun _ => rfl) tabK21 k j x hj h
structure AX where
  f : List UInt8
  off : Int
  save : Int
  lt : List UInt8
  want : List UInt8
  e : Int
  deriving DecidableEq
def tabA21 : List AX := [⟨[69, 37, 115, 84], 0, 0, [83], [69, 83, 84], 0⟩, ⟨[69, 37, 115, 84], 0, 0, [], [], 15⟩, ⟨[69, 37, 115, 84], 0, 0, [83, 85, 77, 77], [69, 83, 85, 77, 77, 84], 0⟩, ⟨[67, 69, 84, 47, 67, 69, 83, 84], 0, 0, [], [67, 69, 84], 0⟩, ⟨[67, 69, 84, 47, 67, 69, 83, 84], 0, -3600, [], [67, 69, 83, 84], 0⟩, ⟨[37, 122], 18000, 3600, [], [43, 48, 54], 0⟩, ⟨[37, 122], 0, 0, [], [43, 48, 48], 0⟩]
theorem tabA21_holds : ∀ x ∈ tabA21, P21.abbrv x.f x.off x.save x.lt = (x.want, x.e) ∧ x.f.length ≤ 10 ∧ x.lt.length ≤ 10 ∧ -100000 ≤ x.off ∧ x.off ≤ 100000 ∧ -100000 ≤ x.save ∧ x.save ≤ 100000 := by decide +kernel
def acell (x : AX) : List Value := [.string (str x.f), .int .i64 x.off, .int .i64 x.save, .string (str x.lt), .string (str x.want), .int .i64 x.e]
def arrA21 : Array Value := (tabA21.flatMap acell).toArray
theorem arrA21_at (k j : Nat) (x : AX) (hj : j < 6) (h : tabA21[k]? = some x) : arrA21[k * 6 + j]? = (acell x)[j]? := by
  unfold arrA21
  rw [List.getElem?_toArray]
  exact flat_at (m := 6) (fun _ => rfl) tabA21 k j x hj h
theorem parts_CET : P21.parts [67, 69, 84, 47, 67, 69, 83, 84] = ([67, 69, 84], [67, 69, 83, 84], true) := by decide +kernel
theorem parts_none : P21.parts [67, 69, 84] = ([], [], false) := by decide +kernel
theorem chk_1 : P21.check [43, 48, 54] 18000 1 3600 (lets []) (svs []) = 0 := by decide +kernel
theorem chk_2 : P21.check [43, 48, 53] 18000 1 3600 (lets []) (svs []) = 15 := by decide +kernel
theorem chk_3 : P21.check [37, 122] 18000 1 3600 (lets []) (svs []) = 0 := by decide +kernel
theorem keepK {w V W W' : World} {x : Int} {t : ByteArray} (hb : Below W.heap.size W W') (h : W.cell? ⟨V.heap.size, 0, none⟩ = some (.string t) ∧ W.cell? ⟨V.heap.size, 1, none⟩ = some (.int .i64 x) ∧ V.heap.size < W.heap.size ∧ Blk W w.heap.size 129 arrK21 ∧ Below w.heap.size w W) : W'.cell? ⟨V.heap.size, 0, none⟩ = some (.string t) ∧ W'.cell? ⟨V.heap.size, 1, none⟩ = some (.int .i64 x) ∧ V.heap.size < W'.heap.size ∧ Blk W' w.heap.size 129 arrK21 ∧ Below w.heap.size w W' :=
  ⟨(hb.cell (p := ⟨V.heap.size, 0, none⟩) h.2.2.1).trans h.1, (hb.cell (p := ⟨V.heap.size, 1, none⟩) h.2.2.1).trans h.2.1, Nat.lt_of_lt_of_le h.2.2.1 hb.size, h.2.2.2.1.below hb h.2.2.2.1.lt, h.2.2.2.2.trans (hb.mono h.2.2.2.2.size)⟩
theorem blkK {w V W : World} {x : Int} {t : ByteArray} (h : W.cell? ⟨V.heap.size, 0, none⟩ = some (.string t) ∧ W.cell? ⟨V.heap.size, 1, none⟩ = some (.int .i64 x) ∧ V.heap.size < W.heap.size ∧ Blk W w.heap.size 129 arrK21 ∧ Below w.heap.size w W) : Blk W w.heap.size 129 arrK21 := h.2.2.2.1
theorem belK {w V W : World} {x : Int} {t : ByteArray} (h : W.cell? ⟨V.heap.size, 0, none⟩ = some (.string t) ∧ W.cell? ⟨V.heap.size, 1, none⟩ = some (.int .i64 x) ∧ V.heap.size < W.heap.size ∧ Blk W w.heap.size 129 arrK21 ∧ Below w.heap.size w W) : Below w.heap.size w W := h.2.2.2.2
theorem varK {w V W : World} {x : Int} {t : ByteArray} (hv : Vars21 w) (h : W.cell? ⟨V.heap.size, 0, none⟩ = some (.string t) ∧ W.cell? ⟨V.heap.size, 1, none⟩ = some (.int .i64 x) ∧ V.heap.size < W.heap.size ∧ Blk W w.heap.size 129 arrK21 ∧ Below w.heap.size w W) : Vars21 W := hv.below h.2.2.2.2
theorem tri {w wr : World} (hb : Below w.heap.size w wr) (E X Y : Array Value) (t : TypeId) : Below w.heap.size w (((wr.alloc (.cells E t)).alloc (.cells X t)).alloc (.cells Y t)).drew ∧ Blk (((wr.alloc (.cells E t)).alloc (.cells X t)).alloc (.cells Y t)).drew wr.heap.size t E ∧ Blk (((wr.alloc (.cells E t)).alloc (.cells X t)).alloc (.cells Y t)).drew (wr.heap.size + 1) t X ∧ Blk (((wr.alloc (.cells E t)).alloc (.cells X t)).alloc (.cells Y t)).drew (wr.heap.size + 1 + 1) t Y := by
  have h0 := hb.alloc hb.size (.cells E t)
  have h1 := h0.alloc h0.size (.cells X t)
  have h2 := h1.alloc h1.size (.cells Y t)
  exact ⟨h2.drew, ((Blk.new wr t E).alloc _).alloc _, (Blk.newAt (wr.alloc (.cells E t)) (wr.heap.size + 1) (by simp) t X).alloc _, Blk.newAt ((wr.alloc (.cells E t)).alloc (.cells X t)) (wr.heap.size + 1 + 1) (by simp) t Y⟩
theorem chkc_1 (W : World) (h : Vars21 W) : Calls Tryd.prog 16 #[.agg #[.int .i64 18000, .int .i64 1, .int .i64 3600, .string ⟨#[]⟩, .string ⟨#[43, 48, 54]⟩, .bool false, .int .i64 0, .int .i64 0, .int .i64 0, .int .i64 0, .int .i64 0, .int .i64 0, .int .i64 0], .slice none 0 0] W fun e w' => e = .returned (.int .i64 0) ∧ Below W.heap.size W w' := by
  have q := fcheck_any 18000 1 3600 ⟨#[]⟩ ⟨#[43, 48, 54]⟩ false 0 0 0 0 0 0 0 none [] 0 W ⟨by decide, by decide⟩ ⟨by decide, by decide⟩ (by decide) (fun y hy => by simp [svs] at hy) (fun r hr => by simp at hr) (by decide) (RulesIn.nil _ _) h
  rw [show P4.bl ⟨#[43, 48, 54]⟩ = [43, 48, 54] from rfl, chk_1] at q
  exact q
theorem chkc_2 (W : World) (h : Vars21 W) : Calls Tryd.prog 16 #[.agg #[.int .i64 18000, .int .i64 1, .int .i64 3600, .string ⟨#[]⟩, .string ⟨#[43, 48, 53]⟩, .bool false, .int .i64 0, .int .i64 0, .int .i64 0, .int .i64 0, .int .i64 0, .int .i64 0, .int .i64 0], .slice none 0 0] W fun e w' => e = .returned (.int .i64 15) ∧ Below W.heap.size W w' := by
  have q := fcheck_any 18000 1 3600 ⟨#[]⟩ ⟨#[43, 48, 53]⟩ false 0 0 0 0 0 0 0 none [] 0 W ⟨by decide, by decide⟩ ⟨by decide, by decide⟩ (by decide) (fun y hy => by simp [svs] at hy) (fun r hr => by simp at hr) (by decide) (RulesIn.nil _ _) h
  rw [show P4.bl ⟨#[43, 48, 53]⟩ = [43, 48, 53] from rfl, chk_2] at q
  exact q
theorem chkc_3 (W : World) (h : Vars21 W) : Calls Tryd.prog 16 #[.agg #[.int .i64 18000, .int .i64 1, .int .i64 3600, .string ⟨#[]⟩, .string ⟨#[37, 122]⟩, .bool false, .int .i64 0, .int .i64 0, .int .i64 0, .int .i64 0, .int .i64 0, .int .i64 0, .int .i64 0], .slice none 0 0] W fun e w' => e = .returned (.int .i64 0) ∧ Below W.heap.size W w' := by
  have q := fcheck_any 18000 1 3600 ⟨#[]⟩ ⟨#[37, 122]⟩ false 0 0 0 0 0 0 0 none [] 0 W ⟨by decide, by decide⟩ ⟨by decide, by decide⟩ (by decide) (fun y hy => by simp [svs] at hy) (fun r hr => by simp at hr) (by decide) (RulesIn.nil _ _) h
  rw [show P4.bl ⟨#[37, 122]⟩ = [37, 122] from rfl, chk_3] at q
  exact q
set_option maxRecDepth 100000 in
set_option maxHeartbeats 20000000 in
theorem works21_any (w : World) (hv : Vars21 w) :
    Calls Tryd.prog 22 #[] w fun e w' => e = .returned (.bool true) ∧ Below w.heap.size w w' := by
  go_enter Tryd.func22, Tryd.ntmps22
  go_wp2_with fail
  go_loopw [32] (fun i wr => ∃ k : Nat, k ≤ 14 ∧ i = .int .i64 (k : Int) ∧ Blk wr w.heap.size 129 arrK21 ∧ Below w.heap.size w wr) (fun i _ => 14 - (intOf i).toNat)
  case atStart => exact ⟨0, by omega, rfl, Blk.new w 129 arrK21, (Below.refl _ _).alloc (Nat.le_refl _) _⟩
  case round =>
    obtain ⟨k, hk, rfl, hT, hb⟩ := hrel
    by_cases hlt : k < 14
    · obtain ⟨x, hx⟩ : ∃ x, tabK21[k]? = some x := ⟨_, List.getElem?_eq_getElem (show k < tabK21.length from hlt)⟩
      obtain ⟨hx1, hx2⟩ := tabK21_holds x (List.mem_of_getElem? hx)
      have e0 : wr.cell? ⟨w.heap.size, k * 2, none⟩ = some (.string (str x.1)) := (hT.cell _).trans (arrK21_at k 0 x (by decide) hx)
      have e1 : wr.cell? ⟨w.heap.size, k * 2 + 1, none⟩ = some (.int .i64 x.2) := (hT.cell _).trans (arrK21_at k 1 x (by decide) hx)
      have cK : Hid (∀ W, Vars21 W → Calls Tryd.prog 18 #[.string (str x.1)] W fun e w' => e = .returned (.int .i64 x.2) ∧ Below W.heap.size W w') := fun W h => by
        have q := kind_any (str x.1) W (by rw [str_size]; omega) h; rw [show P4.bl (str x.1) = x.1 from str_data x.1, hx1] at q; exact q
      have hki : (k : Int) < 14 := by omega
      clear hx hx1 hx2
      generalize str x.1 = t at e0 cK
      generalize x.2 = xo at e1 cK
      have hS : (wr.alloc (.cells #[.string t, .int .i64 xo] 129)).cell? ⟨wr.heap.size, 0, none⟩ = some (.string t) ∧ (wr.alloc (.cells #[.string t, .int .i64 xo] 129)).cell? ⟨wr.heap.size, 1, none⟩ = some (.int .i64 xo) ∧ wr.heap.size < (wr.alloc (.cells #[.string t, .int .i64 xo] 129)).heap.size ∧ Blk (wr.alloc (.cells #[.string t, .int .i64 xo] 129)) w.heap.size 129 arrK21 ∧ Below w.heap.size w (wr.alloc (.cells #[.string t, .int .i64 xo] 129)) :=
        ⟨((Blk.new wr 129 #[.string t, .int .i64 xo]).cell 0).trans rfl, ((Blk.new wr 129 #[.string t, .int .i64 xo]).cell 1).trans rfl, by simp, hT.alloc _, hb.alloc hb.size _⟩
      have HS := Lib.hid hS
      have HV := Lib.hid hv
      clear hS hT hb
      go_wp2_with fail
      go_region_held3 (fun W => W.cell? ⟨wr.heap.size, 0, none⟩ = some (.string t) ∧ W.cell? ⟨wr.heap.size, 1, none⟩ = some (.int .i64 xo) ∧ wr.heap.size < W.heap.size ∧ Blk W w.heap.size 129 arrK21 ∧ Below w.heap.size w W) (first | exact keepK ((Below.refl _ _).drew) HS.out | exact keepK (by assumption) (by assumption) | assumption) (first | (go_at_call 18; refine (cK.out _ (varK HV.out (by first | assumption | exact keepK ((Below.refl _ _).drew) HS.out))).mono ?_; rintro e w' ⟨rfl, hb⟩))
      all_goals
        have hT2 := blkK (by assumption)
        have hb2 := belK (by assumption)
        clear HS cK e0 e1 HV
        go_wp2_with fail
        go_roundw
        case rel => exact ⟨k + 1, by omega, by go_num, hT2, hb2⟩
        case measure => simp [intOf]; omega
    · obtain rfl : k = 14 := by omega
      clear hT hk hlt
      have cP : Hid (∀ W, Vars21 W → Calls Tryd.prog 25 #[.string (str [67, 69, 84, 47, 67, 69, 83, 84])] W fun e w' => e = .returned (.tuple #[.string (str [67, 69, 84]), .string (str [67, 69, 83, 84]), .bool true]) ∧ Below W.heap.size W w') := fun W h => by
        have q := parts_any (str [67, 69, 84, 47, 67, 69, 83, 84]) W (by decide) h; rw [show P4.bl (str [67, 69, 84, 47, 67, 69, 83, 84]) = _ from str_data _, parts_CET] at q; exact q
      have cP2 : Hid (∀ W, Vars21 W → Calls Tryd.prog 25 #[.string (str [67, 69, 84])] W fun e w' => e = .returned (.tuple #[.string (str []), .string (str []), .bool false]) ∧ Below W.heap.size W w') := fun W h => by
        have q := parts_any (str [67, 69, 84]) W (by decide) h; rw [show P4.bl (str [67, 69, 84]) = _ from str_data _, parts_none] at q; exact q
      have n1 := str_toList [67, 69, 84]
      have n2 := str_toList [67, 69, 83, 84]
      have hv1 := hv.below hb
      go_wp2_with fail
      refine (cP.out _ hv1).mono ?_
      rintro e w1 ⟨rfl, hc1⟩
      have hb1 := hb.trans (hc1.mono hb.size)
      have hv2 := hv.below hb1
      clear hc1 hb hv1 cP
      go_wp2_with fail
      refine (cP2.out _ hv2).mono ?_
      rintro e w2 ⟨rfl, hc2⟩
      have hb2 := hb1.trans (hc2.mono hb1.size)
      clear hc2 hb1 hv2 cP2
      have hA := Blk.new w2 131 arrA21
      have hb3 := hb2.alloc hb2.size (.cells arrA21 131)
      clear hb2
      go_wp2_with fail
      obtain ⟨v, hvv⟩ : ∃ v : World, v = w2 := ⟨_, rfl⟩
      rw [← hvv] at hA hb3 ⊢
      clear hvv n1 n2
      go_loopw [82] (fun i wr => ∃ k : Nat, k ≤ 7 ∧ i = .int .i64 (k : Int) ∧ Blk wr v.heap.size 131 arrA21 ∧ Below w.heap.size w wr) (fun i _ => 7 - (intOf i).toNat)
      case atStart => exact ⟨0, by omega, rfl, hA, hb3⟩
      case round =>
        clear hA hb3
        obtain ⟨k, hk, rfl, hT, hb⟩ := hrel
        by_cases hlt : k < 7
        · obtain ⟨x, hx⟩ : ∃ x, tabA21[k]? = some x := ⟨_, List.getElem?_eq_getElem (show k < tabA21.length from hlt)⟩
          obtain ⟨hx1, hx2, hx3, hx4, hx5, hx6, hx7⟩ := tabA21_holds x (List.mem_of_getElem? hx)
          have e0 : wr.cell? ⟨v.heap.size, k * 6, none⟩ = some (.string (str x.f)) := (hT.cell _).trans (arrA21_at k 0 x (by decide) hx)
          have e1 : wr.cell? ⟨v.heap.size, k * 6 + 1, none⟩ = some (.int .i64 x.off) := (hT.cell _).trans (arrA21_at k 1 x (by decide) hx)
          have e2 : wr.cell? ⟨v.heap.size, k * 6 + 2, none⟩ = some (.int .i64 x.save) := (hT.cell _).trans (arrA21_at k 2 x (by decide) hx)
          have e3 : wr.cell? ⟨v.heap.size, k * 6 + 3, none⟩ = some (.string (str x.lt)) := (hT.cell _).trans (arrA21_at k 3 x (by decide) hx)
          have e4 : wr.cell? ⟨v.heap.size, k * 6 + 4, none⟩ = some (.string (str x.want)) := (hT.cell _).trans (arrA21_at k 4 x (by decide) hx)
          have e5 : wr.cell? ⟨v.heap.size, k * 6 + 5, none⟩ = some (.int .i64 x.e) := (hT.cell _).trans (arrA21_at k 5 x (by decide) hx)
          have cA : Hid (∀ W, Vars21 W → Calls Tryd.prog 17 #[.string (str x.f), .int .i64 x.off, .agg #[.int .i64 x.save, .string (str x.lt)]] W fun e w' => e = .returned (.tuple #[.string (str x.want), .int .i64 x.e]) ∧ Below W.heap.size W w') := fun W h => by
            have q := fabbr_any (str x.f) x.off x.save (str x.lt) W (by rw [str_size]; omega) (by rw [str_size]; omega) ⟨by omega, by omega⟩ ⟨by omega, by omega⟩ h; rw [show P4.bl (str x.f) = x.f from str_data x.f, show P4.bl (str x.lt) = x.lt from str_data x.lt, hx1] at q; exact q
          have hki : (k : Int) < 7 := by omega
          clear hx hx1 hx2 hx3 hx4 hx5 hx6 hx7
          generalize str x.f = f at e0 cA
          generalize x.off = xo at e1 cA
          generalize x.save = xs at e2 cA
          generalize str x.lt = l at e3 cA
          generalize str x.want = t at e4 cA
          generalize x.e = xe at e5 cA
          have hX := Blk.new wr 131 #[.string f, .int .i64 xo, .int .i64 xs, .string l, .string t, .int .i64 xe]
          have hT1 := hT.alloc (.cells #[.string f, .int .i64 xo, .int .i64 xs, .string l, .string t, .int .i64 xe] 131)
          have hb1 := hb.alloc hb.size (.cells #[.string f, .int .i64 xo, .int .i64 xs, .string l, .string t, .int .i64 xe] 131)
          have hv1 := hv.below hb1
          clear hT hb
          go_wp2_with fail
          refine (cA.out _ hv1).mono ?_
          rintro e w3 ⟨rfl, hc1⟩
          have hX1 := hX.below hc1 hX.lt
          have hT2 := hT1.below hc1 hT1.lt
          have hb2 := hb1.trans (hc1.mono hb1.size)
          have k1 : w3.cell? ⟨wr.heap.size, 4, none⟩ = some (.string t) := (hX1.cell 4).trans rfl
          have k2 : w3.cell? ⟨wr.heap.size, 5, none⟩ = some (.int .i64 xe) := (hX1.cell 5).trans rfl
          clear hX hX1 hT1 hb1 hc1 hv1 cA e0 e1 e2 e3 e4 e5
          go_wp2_with fail
          go_roundw
          case rel => first | exact ⟨k + 1, by omega, by go_num, hT2, hb2⟩ | ((repeat apply Exists.intro); exact ⟨⟨k + 1, by omega, by go_num, hT2, hb2⟩, rfl⟩)
          case measure => simp [intOf]; omega
        · obtain rfl : k = 7 := by omega
          clear hT hk hlt
          go_wp2_with fail
          go_region
          · obtain ⟨hb4, hBE, hBX, hBY⟩ := tri hb #[.int .i64 18000, .int .i64 1, .int .i64 3600, .string ⟨#[]⟩, .string ⟨#[43, 48, 54]⟩, .bool false, .int .i64 0, .int .i64 0, .int .i64 0, .int .i64 0, .int .i64 0, .int .i64 0, .int .i64 0] #[.int .i64 18000, .int .i64 1, .int .i64 3600, .string ⟨#[]⟩, .string ⟨#[43, 48, 53]⟩, .bool false, .int .i64 0, .int .i64 0, .int .i64 0, .int .i64 0, .int .i64 0, .int .i64 0, .int .i64 0] #[.int .i64 18000, .int .i64 1, .int .i64 3600, .string ⟨#[]⟩, .string ⟨#[37, 122]⟩, .bool false, .int .i64 0, .int .i64 0, .int .i64 0, .int .i64 0, .int .i64 0, .int .i64 0, .int .i64 0] 33
            have hv4 := hv.below hb4
            clear hb
            go_wp2_with fail
            refine (chkc_1 _ hv4).mono ?_
            rintro e w4 ⟨rfl, hc4⟩
            have hX5 := hBX.below hc4 hBX.lt
            have hY5 := hBY.below hc4 hBY.lt
            have hb5 := hb4.trans (hc4.mono hb4.size)
            have hv5 := hv.below hb5
            clear hb4 hBE hBX hBY hv4 hc4
            have k0 := (hX5.cell 0).trans rfl
            have k1 := (hX5.cell 1).trans rfl
            have k2 := (hX5.cell 2).trans rfl
            have k3 := (hX5.cell 3).trans rfl
            have k4 := (hX5.cell 4).trans rfl
            have k5 := (hX5.cell 5).trans rfl
            have k6 := (hX5.cell 6).trans rfl
            have k7 := (hX5.cell 7).trans rfl
            have k8 := (hX5.cell 8).trans rfl
            have k9 := (hX5.cell 9).trans rfl
            have k10 := (hX5.cell 10).trans rfl
            have k11 := (hX5.cell 11).trans rfl
            have k12 := (hX5.cell 12).trans rfl
            go_wp2_with fail
            refine (chkc_2 _ hv5).mono ?_
            rintro e w5 ⟨rfl, hc5⟩
            have hX6 := hX5.below hc5 hX5.lt
            have hY6 := hY5.below hc5 hY5.lt
            have hb6 := hb5.trans (hc5.mono hb5.size)
            have hv6 := hv.below hb6
            clear hb5 hX5 hY5 hv5 hc5 k0 k1 k2 k3 k4 k5 k6 k7 k8 k9 k10 k11 k12
            have k0 := (hY6.cell 0).trans rfl
            have k1 := (hY6.cell 1).trans rfl
            have k2 := (hY6.cell 2).trans rfl
            have k3 := (hY6.cell 3).trans rfl
            have k4 := (hY6.cell 4).trans rfl
            have k5 := (hY6.cell 5).trans rfl
            have k6 := (hY6.cell 6).trans rfl
            have k7 := (hY6.cell 7).trans rfl
            have k8 := (hY6.cell 8).trans rfl
            have k9 := (hY6.cell 9).trans rfl
            have k10 := (hY6.cell 10).trans rfl
            have k11 := (hY6.cell 11).trans rfl
            have k12 := (hY6.cell 12).trans rfl
            go_wp2_with fail
            refine (chkc_3 _ hv6).mono ?_
            rintro e w6 ⟨rfl, hc6⟩
            have hb7 := hb6.trans (hc6.mono hb6.size)
            clear hb6 hX6 hY6 hv6 hc6 k0 k1 k2 k3 k4 k5 k6 k7 k8 k9 k10 k11 k12
            go_wp2_with fail
            go_ret
            exact ⟨rfl, hb7⟩
          · obtain ⟨hb4, hBE, hBX, hBY⟩ := tri hb #[.int .i64 18000, .int .i64 1, .int .i64 3600, .string ⟨#[]⟩, .string ⟨#[43, 48, 54]⟩, .bool false, .int .i64 0, .int .i64 0, .int .i64 0, .int .i64 0, .int .i64 0, .int .i64 0, .int .i64 0] #[.int .i64 18000, .int .i64 1, .int .i64 3600, .string ⟨#[]⟩, .string ⟨#[37, 122]⟩, .bool false, .int .i64 0, .int .i64 0, .int .i64 0, .int .i64 0, .int .i64 0, .int .i64 0, .int .i64 0] #[.int .i64 18000, .int .i64 1, .int .i64 3600, .string ⟨#[]⟩, .string ⟨#[43, 48, 53]⟩, .bool false, .int .i64 0, .int .i64 0, .int .i64 0, .int .i64 0, .int .i64 0, .int .i64 0, .int .i64 0] 33
            have hv4 := hv.below hb4
            clear hb
            go_wp2_with fail
            refine (chkc_1 _ hv4).mono ?_
            rintro e w4 ⟨rfl, hc4⟩
            have hX5 := hBX.below hc4 hBX.lt
            have hY5 := hBY.below hc4 hBY.lt
            have hb5 := hb4.trans (hc4.mono hb4.size)
            have hv5 := hv.below hb5
            clear hb4 hBE hBX hBY hv4 hc4
            have k0 := (hY5.cell 0).trans rfl
            have k1 := (hY5.cell 1).trans rfl
            have k2 := (hY5.cell 2).trans rfl
            have k3 := (hY5.cell 3).trans rfl
            have k4 := (hY5.cell 4).trans rfl
            have k5 := (hY5.cell 5).trans rfl
            have k6 := (hY5.cell 6).trans rfl
            have k7 := (hY5.cell 7).trans rfl
            have k8 := (hY5.cell 8).trans rfl
            have k9 := (hY5.cell 9).trans rfl
            have k10 := (hY5.cell 10).trans rfl
            have k11 := (hY5.cell 11).trans rfl
            have k12 := (hY5.cell 12).trans rfl
            go_wp2_with fail
            refine (chkc_2 _ hv5).mono ?_
            rintro e w5 ⟨rfl, hc5⟩
            have hX6 := hX5.below hc5 hX5.lt
            have hY6 := hY5.below hc5 hY5.lt
            have hb6 := hb5.trans (hc5.mono hb5.size)
            have hv6 := hv.below hb6
            clear hb5 hX5 hY5 hv5 hc5 k0 k1 k2 k3 k4 k5 k6 k7 k8 k9 k10 k11 k12
            have k0 := (hX6.cell 0).trans rfl
            have k1 := (hX6.cell 1).trans rfl
            have k2 := (hX6.cell 2).trans rfl
            have k3 := (hX6.cell 3).trans rfl
            have k4 := (hX6.cell 4).trans rfl
            have k5 := (hX6.cell 5).trans rfl
            have k6 := (hX6.cell 6).trans rfl
            have k7 := (hX6.cell 7).trans rfl
            have k8 := (hX6.cell 8).trans rfl
            have k9 := (hX6.cell 9).trans rfl
            have k10 := (hX6.cell 10).trans rfl
            have k11 := (hX6.cell 11).trans rfl
            have k12 := (hX6.cell 12).trans rfl
            go_wp2_with fail
            refine (chkc_3 _ hv6).mono ?_
            rintro e w6 ⟨rfl, hc6⟩
            have hb7 := hb6.trans (hc6.mono hb6.size)
            clear hb6 hX6 hY6 hv6 hc6 k0 k1 k2 k3 k4 k5 k6 k7 k8 k9 k10 k11 k12
            go_wp2_with fail
            go_ret
            exact ⟨rfl, hb7⟩
end Go.Proofs.YtmhciidliicheaaDoor
