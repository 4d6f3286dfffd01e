/- The examples of chapter 8. -/
import Derived.Laws.EntriesVeiled
import Derived.Test.YtggdfgdnpicepaaDoorWrd8g
namespace Go.Proofs.YtggdfgdnpicepaaDoor
open Go.RowKit Go.Proofs
set_option linter.unusedVariables false
set_option linter.unusedSimpArgs false

/-- what stands in the examples: the function, the string, the number, the error -/
structure XV where
  f : Nat
  s : List UInt8
  n : Int
  e : Int
def XV.cells (x : XV) : List Value := [.func (.func x.f) #[] #[], .string (str x.s), .int .i64 x.n, .int .i64 x.e]
def exs : List XV := [⟨26, [82, 117, 108, 101], 1, 0⟩, ⟨26, [122], 2, 0⟩, ⟨26, [76, 73], 3, 0⟩, ⟨26, [114, 117, 108, 101, 115], 0, 8⟩, ⟨26, [], 0, 8⟩, ⟨28, [74, 97, 110], 1, 0⟩, ⟨28, [106, 97], 1, 0⟩, ⟨28, [106], 0, 8⟩, ⟨28, [106, 117, 110], 6, 0⟩, ⟨28, [106, 117], 0, 8⟩, ⟨28, [109, 97], 0, 8⟩, ⟨28, [109, 97, 121], 5, 0⟩, ⟨28, [68], 12, 0⟩, ⟨30, [83, 85, 78], 0, 0⟩, ⟨30, [115], 0, 8⟩, ⟨30, [116], 0, 8⟩, ⟨30, [116, 104], 4, 0⟩, ⟨30, [109], 1, 0⟩, ⟨30, [115, 117, 110, 100, 97, 121, 115], 0, 8⟩, ⟨32, [111, 110, 108, 121], 1, 0⟩, ⟨32, [109, 97, 120], 2, 0⟩, ⟨32, [109], 2, 0⟩, ⟨32, [109, 105, 110, 105, 109, 117, 109], 0, 8⟩]
/-- the function of an example finds what it says -/
def Finds (x : XV) : Prop := (x.f = 26 ∧ P8.num 1 x.s P8.lines = (x.n, x.e)) ∨ (x.f = 28 ∧ P8.num 1 x.s P8.months = (x.n, x.e)) ∨ (x.f = 30 ∧ P8.num 0 x.s P8.weeks = (x.n, x.e)) ∨ (x.f = 32 ∧ P8.num 1 x.s P8.years = (x.n, x.e))
instance (x : XV) : Decidable (Finds x) := by unfold Finds; infer_instance
theorem finds_f {x : XV} (h : Finds x) : x.f = 26 ∨ x.f = 28 ∨ x.f = 30 ∨ x.f = 32 :=
  h.elim (fun h => .inl h.1) fun h => h.elim (fun h => .inr (.inl h.1)) fun h => h.elim (fun h => .inr (.inr (.inl h.1))) fun h => .inr (.inr (.inr h.1))
theorem exs_find : ∀ x ∈ exs, Finds x ∧ x.s.length ≤ 100 := by decide +kernel
theorem flat4_get {α : Type} {f : α → List Value} {m : Nat} (hf : ∀ a, (f a).length = m) : ∀ (l : List α) (k j : Nat) (x : α), j < m → l[k]? = some x → (l.flatMap f)[k * m + j]? = (f x)[j]?
  | [], k, j, x, _, h => by simp at h
  | a :: l, 0, j, x, hj, h => by
    simp only [List.getElem?_cons_zero, Option.some.injEq] at h
    subst h
    rw [List.flatMap_cons, Nat.zero_mul, Nat.zero_add, List.getElem?_append_left (by rw [hf]; exact hj)]
  | a :: l, k + 1, j, x, hj, h => by
    simp only [List.getElem?_cons_succ] at h
    rw [List.flatMap_cons, List.getElem?_append_right (by rw [hf, Nat.succ_mul]; omega), hf, show (k + 1) * m + j - m = k * m + j by rw [Nat.succ_mul]; omega]
    exact flat4_get hf l k j x hj h
/-- a call of a function of the four -/
theorem finds_call (x : XV) (h : Finds x) (hs : x.s.length ≤ 1000000) (w : World) (hv : Vars8 w) : Calls Tryd.prog x.f #[.string (str x.s)] w fun e w' => e = .returned (.tuple #[.int .i64 x.n, .int .i64 x.e]) ∧ Below w.heap.size w w' := by
  rcases h with ⟨h1, h2⟩ | ⟨h1, h2⟩ | ⟨h1, h2⟩ | ⟨h1, h2⟩ <;> rw [h1]
  · have q := line_any (str x.s) w (by rw [str_size]; exact hs) hv
    rw [str_data, h2] at q
    exact q
  · have q := month_any (str x.s) w (by rw [str_size]; exact hs) hv
    rw [str_data, h2] at q
    exact q
  · have q := week_any (str x.s) w (by rw [str_size]; exact hs) hv
    rw [str_data, h2] at q
    exact q
  · have q := to_any (str x.s) w (by rw [str_size]; exact hs) hv
    rw [str_data, h2] at q
    exact q
set_option maxRecDepth 100000 in
set_option maxHeartbeats 8000000 in
theorem works8_any (w : World) (hv : Vars8 w) : Calls Tryd.prog 25 #[] w fun e w' => e = .returned (.bool true) ∧ Below w.heap.size w w' := by
  have hC : Cs (w.alloc (.cells #[.func (.func 26) #[] #[], .string ⟨#[82, 117, 108, 101]⟩, .int .i64 1, .int .i64 0, .func (.func 26) #[] #[], .string ⟨#[122]⟩, .int .i64 2, .int .i64 0, .func (.func 26) #[] #[], .string ⟨#[76, 73]⟩, .int .i64 3, .int .i64 0, .func (.func 26) #[] #[], .string ⟨#[114, 117, 108, 101, 115]⟩, .int .i64 0, .int .i64 8, .func (.func 26) #[] #[], .string ⟨#[]⟩, .int .i64 0, .int .i64 8, .func (.func 28) #[] #[], .string ⟨#[74, 97, 110]⟩, .int .i64 1, .int .i64 0, .func (.func 28) #[] #[], .string ⟨#[106, 97]⟩, .int .i64 1, .int .i64 0, .func (.func 28) #[] #[], .string ⟨#[106]⟩, .int .i64 0, .int .i64 8, .func (.func 28) #[] #[], .string ⟨#[106, 117, 110]⟩, .int .i64 6, .int .i64 0, .func (.func 28) #[] #[], .string ⟨#[106, 117]⟩, .int .i64 0, .int .i64 8, .func (.func 28) #[] #[], .string ⟨#[109, 97]⟩, .int .i64 0, .int .i64 8, .func (.func 28) #[] #[], .string ⟨#[109, 97, 121]⟩, .int .i64 5, .int .i64 0, .func (.func 28) #[] #[], .string ⟨#[68]⟩, .int .i64 12, .int .i64 0, .func (.func 30) #[] #[], .string ⟨#[83, 85, 78]⟩, .int .i64 0, .int .i64 0, .func (.func 30) #[] #[], .string ⟨#[115]⟩, .int .i64 0, .int .i64 8, .func (.func 30) #[] #[], .string ⟨#[116]⟩, .int .i64 0, .int .i64 8, .func (.func 30) #[] #[], .string ⟨#[116, 104]⟩, .int .i64 4, .int .i64 0, .func (.func 30) #[] #[], .string ⟨#[109]⟩, .int .i64 1, .int .i64 0, .func (.func 30) #[] #[], .string ⟨#[115, 117, 110, 100, 97, 121, 115]⟩, .int .i64 0, .int .i64 8, .func (.func 32) #[] #[], .string ⟨#[111, 110, 108, 121]⟩, .int .i64 1, .int .i64 0, .func (.func 32) #[] #[], .string ⟨#[109, 97, 120]⟩, .int .i64 2, .int .i64 0, .func (.func 32) #[] #[], .string ⟨#[109]⟩, .int .i64 2, .int .i64 0, .func (.func 32) #[] #[], .string ⟨#[109, 105, 110, 105, 109, 117, 109]⟩, .int .i64 0, .int .i64 8] 111)) w.heap.size (exs.flatMap XV.cells) := Cs.new w _ _
  have hB := (Below.refl w.heap.size w).alloc (Nat.le_refl _) (.cells #[.func (.func 26) #[] #[], .string ⟨#[82, 117, 108, 101]⟩, .int .i64 1, .int .i64 0, .func (.func 26) #[] #[], .string ⟨#[122]⟩, .int .i64 2, .int .i64 0, .func (.func 26) #[] #[], .string ⟨#[76, 73]⟩, .int .i64 3, .int .i64 0, .func (.func 26) #[] #[], .string ⟨#[114, 117, 108, 101, 115]⟩, .int .i64 0, .int .i64 8, .func (.func 26) #[] #[], .string ⟨#[]⟩, .int .i64 0, .int .i64 8, .func (.func 28) #[] #[], .string ⟨#[74, 97, 110]⟩, .int .i64 1, .int .i64 0, .func (.func 28) #[] #[], .string ⟨#[106, 97]⟩, .int .i64 1, .int .i64 0, .func (.func 28) #[] #[], .string ⟨#[106]⟩, .int .i64 0, .int .i64 8, .func (.func 28) #[] #[], .string ⟨#[106, 117, 110]⟩, .int .i64 6, .int .i64 0, .func (.func 28) #[] #[], .string ⟨#[106, 117]⟩, .int .i64 0, .int .i64 8, .func (.func 28) #[] #[], .string ⟨#[109, 97]⟩, .int .i64 0, .int .i64 8, .func (.func 28) #[] #[], .string ⟨#[109, 97, 121]⟩, .int .i64 5, .int .i64 0, .func (.func 28) #[] #[], .string ⟨#[68]⟩, .int .i64 12, .int .i64 0, .func (.func 30) #[] #[], .string ⟨#[83, 85, 78]⟩, .int .i64 0, .int .i64 0, .func (.func 30) #[] #[], .string ⟨#[115]⟩, .int .i64 0, .int .i64 8, .func (.func 30) #[] #[], .string ⟨#[116]⟩, .int .i64 0, .int .i64 8, .func (.func 30) #[] #[], .string ⟨#[116, 104]⟩, .int .i64 4, .int .i64 0, .func (.func 30) #[] #[], .string ⟨#[109]⟩, .int .i64 1, .int .i64 0, .func (.func 30) #[] #[], .string ⟨#[115, 117, 110, 100, 97, 121, 115]⟩, .int .i64 0, .int .i64 8, .func (.func 32) #[] #[], .string ⟨#[111, 110, 108, 121]⟩, .int .i64 1, .int .i64 0, .func (.func 32) #[] #[], .string ⟨#[109, 97, 120]⟩, .int .i64 2, .int .i64 0, .func (.func 32) #[] #[], .string ⟨#[109]⟩, .int .i64 2, .int .i64 0, .func (.func 32) #[] #[], .string ⟨#[109, 105, 110, 105, 109, 117, 109]⟩, .int .i64 0, .int .i64 8] 111)
  have HC := Lib.hid hC; have HB := Lib.hid hB; have HV := Lib.hid hv
  clear hC hB hv
  go_enter Tryd.func25, Tryd.ntmps25
  go_wp2_with fail
  go_loopw [30] (fun i W => ∃ k : Nat, k ≤ 23 ∧ i = .int .i64 k ∧ Cs W w.heap.size (exs.flatMap XV.cells) ∧ Below w.heap.size w W) (fun i _ => 23 - (intOf i).toNat)
  case atStart => exact ⟨0, by omega, rfl, HC.out, HB.out⟩
  case round =>
    obtain ⟨k, hk, rfl, hcs, hb⟩ := hrel
    by_cases hlt : k < 23
    · have hki : (k : Int) < (23 : Int) := by omega
      obtain ⟨x, hx⟩ : ∃ x, exs[k]? = some x := ⟨_, List.getElem?_eq_getElem hlt⟩
      have hxm := exs_find x (List.mem_of_getElem? hx)
      have g := fun j hj => flat4_get (f := XV.cells) (m := 4) (fun _ => rfl) exs k j x hj hx
      have c0 := hcs.cell (k * 4) _ ((g 0 (by decide)).trans rfl)
      have c1 := hcs.cell (k * 4 + 1) _ ((g 1 (by decide)).trans rfl)
      have c2 := hcs.cell (k * 4 + 2) _ ((g 2 (by decide)).trans rfl)
      have c3 := hcs.cell (k * 4 + 3) _ ((g 3 (by decide)).trans rfl)
      obtain ⟨f, s, n, e⟩ := x
      simp only at c0 c1 c2 c3
      have HCS := Lib.hid hcs; have HBB := Lib.hid hb
      have nb := Blk.new wr 111 #[.func (.func f) #[] #[], .string (str s), .int .i64 n, .int .i64 e]
      have n2 := (nb.cell 2).trans rfl
      have n3 := (nb.cell 3).trans rfl
      have HCN := Lib.hid (fun W (h : Below (wr.alloc (.cells #[.func (.func f) #[] #[], .string (str s), .int .i64 n, .int .i64 e] 111)).heap.size (wr.alloc (.cells #[.func (.func f) #[] #[], .string (str s), .int .i64 n, .int .i64 e] 111)) W) => (show Blk W wr.heap.size 111 #[.func (.func f) #[] #[], .string (str s), .int .i64 n, .int .i64 e] ∧ Cs W w.heap.size (exs.flatMap XV.cells) ∧ Below w.heap.size w W from ⟨nb.below h nb.lt, (hcs.alloc _).belowS h, (hb.alloc hb.size _).trans (h.mono (Nat.le_trans hb.size (by simp)))⟩))
      have hcall := finds_call ⟨f, s, n, e⟩ hxm.1 (Nat.le_trans hxm.2 (by decide)) (wr.alloc (.cells #[.func (.func f) #[] #[], .string (str s), .int .i64 n, .int .i64 e] 111)) (HV.out.below (hb.alloc hb.size _))
      have HCL := Lib.hid hcall
      have hf := hxm.1
      clear hcs hb hx hxm g nb hcall n2 n3
      have q1 : (n != n) = false := by simp
      have q2 : (e != e) = false := by simp
      have hff : f = 26 ∨ f = 28 ∨ f = 30 ∨ f = 32 := finds_f hf
      clear hf
      rcases hff with rfl | rfl | rfl | rfl
      · go_wp2_with (go_at_call 26; refine HCL.out.mono ?_; rintro en w1 ⟨rfl, h1⟩; obtain ⟨nb, ncs, nbl⟩ := HCN.out _ h1; have n2 := (nb.cell 2).trans rfl; have n3 := (nb.cell 3).trans rfl; have HR := Lib.hid ncs; have HBL := Lib.hid nbl; clear h1 nb ncs nbl HCL HCN)
        go_roundw
        case rel => exact ⟨k + 1, by omega, by go_num, HR.out, HBL.out⟩
        case measure => simp [intOf]; omega
      · go_wp2_with (go_at_call 28; refine HCL.out.mono ?_; rintro en w1 ⟨rfl, h1⟩; obtain ⟨nb, ncs, nbl⟩ := HCN.out _ h1; have n2 := (nb.cell 2).trans rfl; have n3 := (nb.cell 3).trans rfl; have HR := Lib.hid ncs; have HBL := Lib.hid nbl; clear h1 nb ncs nbl HCL HCN)
        go_roundw
        case rel => exact ⟨k + 1, by omega, by go_num, HR.out, HBL.out⟩
        case measure => simp [intOf]; omega
      · go_wp2_with (go_at_call 30; refine HCL.out.mono ?_; rintro en w1 ⟨rfl, h1⟩; obtain ⟨nb, ncs, nbl⟩ := HCN.out _ h1; have n2 := (nb.cell 2).trans rfl; have n3 := (nb.cell 3).trans rfl; have HR := Lib.hid ncs; have HBL := Lib.hid nbl; clear h1 nb ncs nbl HCL HCN)
        go_roundw
        case rel => exact ⟨k + 1, by omega, by go_num, HR.out, HBL.out⟩
        case measure => simp [intOf]; omega
      · go_wp2_with (go_at_call 32; refine HCL.out.mono ?_; rintro en w1 ⟨rfl, h1⟩; obtain ⟨nb, ncs, nbl⟩ := HCN.out _ h1; have n2 := (nb.cell 2).trans rfl; have n3 := (nb.cell 3).trans rfl; have HR := Lib.hid ncs; have HBL := Lib.hid nbl; clear h1 nb ncs nbl HCL HCN)
        go_roundw
        case rel => exact ⟨k + 1, by omega, by go_num, HR.out, HBL.out⟩
        case measure => simp [intOf]; omega
    · obtain rfl : k = 23 := by omega
      have hv2 := HV.out.below hb
      have HM : Hid (∀ n W, n ≤ 9 → Vars8 W → Calls Tryd.prog 34 #[.int .i64 n] W fun e w' => e = .returned (.string (str (monthText n))) ∧ Below W.heap.size W w') := Lib.hid (fun n W hn hv => month_text n W (by omega) hv)
      have HK : Hid (∀ n W, Vars8 W → Calls Tryd.prog 36 #[.int .i64 n] W fun e w' => e = .returned (.string (str (weekText n))) ∧ Below W.heap.size W w') := Lib.hid (fun n W hv => week_text n W hv)
      have t9 : str (monthText 9) = ⟨#[83, 101, 112]⟩ := by decide +kernel
      have t0 : str (weekText 0) = ⟨#[83, 117, 110]⟩ := by decide +kernel
      have t1 : str (monthText 0) = ⟨#[]⟩ := by decide +kernel
      have t7 : str (weekText 7) = ⟨#[]⟩ := by decide +kernel
      clear hcs
      have HV2 := Lib.hid hv2; have HBB := Lib.hid hb
      clear hv2 hb
      go_wp2_with fail
      refine (HM.out 9 _ (by decide) HV2.out).mono ?_
      rintro e w1 ⟨rfl, hb1⟩
      rw [t9]
      have HV3 := Lib.hid (HV2.out.below hb1); have HB3 := Lib.hid (HBB.out.trans (hb1.mono HBB.out.size))
      clear hb1 HBB HV2
      go_wp2_with fail
      refine (HK.out 0 _ HV3.out).mono ?_
      rintro e w2 ⟨rfl, hb1⟩
      rw [t0]
      have HV4 := Lib.hid (HV3.out.below hb1); have HB4 := Lib.hid (HB3.out.trans (hb1.mono HB3.out.size))
      clear hb1 HB3 HV3
      go_wp2_with fail
      refine (HM.out 0 _ (by decide) HV4.out).mono ?_
      rintro e w3 ⟨rfl, hb1⟩
      rw [t1]
      have HV5 := Lib.hid (HV4.out.below hb1); have HB5 := Lib.hid (HB4.out.trans (hb1.mono HB4.out.size))
      clear hb1 HB4 HV4
      go_wp2_with fail
      refine (HK.out 7 _ HV5.out).mono ?_
      rintro e w4 ⟨rfl, hb1⟩
      rw [t7]
      have HB6 := Lib.hid (HB5.out.trans (hb1.mono HB5.out.size))
      clear hb1 HB5 HV5
      go_wp2_with fail
      go_ret
      exact ⟨rfl, HB6.out⟩
end Go.Proofs.YtggdfgdnpicepaaDoor
