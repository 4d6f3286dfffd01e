/- Texts of one proof, one behind the other: Equal29; M25; W25. -/
import Derived.Test.YtlideagcmhlkeaaDoorT8
import Derived.Deep.MidRow
import Derived.Laws.IdiomCopy

/- slices.Equal of rules, links, strings and eras, EqualFunc of zones, and analemmalaw13.SameSource: whether two sources are the same. -/
namespace Go.Proofs.YtlideagcmhlkeaaDoor
open Go.RowKit Go.Lib
set_option linter.unusedVariables false
set_option linter.unusedSimpArgs false
attribute [local go_sem high] neq_era neq_rule neq_link

set_option maxRecDepth 100000 in
set_option maxHeartbeats 8000000 in
theorem equal_rule (A B : Option Addr) (c d : Nat) (L M : List RV) (w : World) (hA : CellsIn 11 RV.cells w A L) (hB : CellsIn 11 RV.cells w B M) (hl : L.length ≤ 1100000) :
    Calls Tryd.prog 60 #[.slice A L.length c, .slice B M.length d] w fun e W => ∃ R : Bool, (R = true ↔ L = M) ∧ e = .returned (.bool R) ∧ Below w.heap.size w W := by
  by_cases hlen : L.length = M.length
  rotate_left
  · have hbn : ((L.length : Int) != (M.length : Int)) = true := by rw [bne_iff_ne]; omega
    have HL := Lib.hid hlen
    clear hA hB hlen hl
    go_enter Tryd.func60, Tryd.ntmps60
    go_wp2_with fail
    go_ret
    exact ⟨false, ⟨fun h => (by cases h), fun h => absurd (congrArg List.length h) HL.out⟩, rfl, Below.refl _ _⟩
  have hbn : ((L.length : Int) != (M.length : Int)) = false := by rw [bne_eq_false_iff_eq]; omega
  have HL := Lib.hid hlen; have HA := Lib.hid hA; have HB := Lib.hid hB
  have hl2 : (L.length : Int) ≤ 1100000 := by omega
  clear hlen hA hB
  go_enter Tryd.func60, Tryd.ntmps60
  go_wp2_with fail
  go_loopw [5, 13] (fun s5 i W => ∃ k : Nat, k ≤ L.length ∧ i = .int .i64 k ∧ Below w.heap.size w W ∧ Hid (eTo14 L M k)) (fun _ i _ => L.length - (intOf i).toNat)
  case atStart => exact ⟨0, Nat.zero_le _, rfl, Below.refl _ _, Lib.hid (fun i h => by omega)⟩
  case round =>
    obtain ⟨k, hk, rfl, hbw, hte⟩ := hrel
    obtain ⟨wq, hwq⟩ : ∃ x, x = wr := ⟨_, rfl⟩
    subst hwq
    have HBW := Lib.hid hbw
    clear hbw
    by_cases hlt : k < L.length
    · obtain ⟨x, hx⟩ : ∃ x, L[k]? = some x := ⟨_, List.getElem?_eq_getElem hlt⟩
      obtain ⟨u, hu⟩ : ∃ u, M[k]? = some u := ⟨_, List.getElem?_eq_getElem (by have := HL.out; omega)⟩
      obtain ⟨gx, ox, rfl, hgx, xt⟩ := (HA.out.below HBW.out) k x hx
      obtain ⟨gu, ou, rfl, hgu, ut⟩ := (HB.out.below HBW.out) k u hu
      have x0 : wq.cell? ⟨gx, ox + k * 11, none⟩ = some (.string x.name) := xt 0 _ rfl
      have x1 : wq.cell? ⟨gx, ox + k * 11 + 1, none⟩ = some (.int .i64 x.frm) := xt 1 _ rfl
      have x2 : wq.cell? ⟨gx, ox + k * 11 + 2, none⟩ = some (.int .i64 x.til) := xt 2 _ rfl
      have x3 : wq.cell? ⟨gx, ox + k * 11 + 3, none⟩ = some (.int .i64 x.month) := xt 3 _ rfl
      have x4 : wq.cell? ⟨gx, ox + k * 11 + 4, none⟩ = some (.int .i64 x.dk) := xt 4 _ rfl
      have x5 : wq.cell? ⟨gx, ox + k * 11 + 5, none⟩ = some (.int .i64 x.dw) := xt 5 _ rfl
      have x6 : wq.cell? ⟨gx, ox + k * 11 + 6, none⟩ = some (.int .i64 x.dd) := xt 6 _ rfl
      have x7 : wq.cell? ⟨gx, ox + k * 11 + 7, none⟩ = some (.int .i64 x.asec) := xt 7 _ rfl
      have x8 : wq.cell? ⟨gx, ox + k * 11 + 8, none⟩ = some (.int .i64 x.abase) := xt 8 _ rfl
      have x9 : wq.cell? ⟨gx, ox + k * 11 + 9, none⟩ = some (.int .i64 x.save) := xt 9 _ rfl
      have x10 : wq.cell? ⟨gx, ox + k * 11 + 10, none⟩ = some (.string x.letter) := xt 10 _ rfl
      have u0 : wq.cell? ⟨gu, ou + k * 11, none⟩ = some (.string u.name) := ut 0 _ rfl
      have u1 : wq.cell? ⟨gu, ou + k * 11 + 1, none⟩ = some (.int .i64 u.frm) := ut 1 _ rfl
      have u2 : wq.cell? ⟨gu, ou + k * 11 + 2, none⟩ = some (.int .i64 u.til) := ut 2 _ rfl
      have u3 : wq.cell? ⟨gu, ou + k * 11 + 3, none⟩ = some (.int .i64 u.month) := ut 3 _ rfl
      have u4 : wq.cell? ⟨gu, ou + k * 11 + 4, none⟩ = some (.int .i64 u.dk) := ut 4 _ rfl
      have u5 : wq.cell? ⟨gu, ou + k * 11 + 5, none⟩ = some (.int .i64 u.dw) := ut 5 _ rfl
      have u6 : wq.cell? ⟨gu, ou + k * 11 + 6, none⟩ = some (.int .i64 u.dd) := ut 6 _ rfl
      have u7 : wq.cell? ⟨gu, ou + k * 11 + 7, none⟩ = some (.int .i64 u.asec) := ut 7 _ rfl
      have u8 : wq.cell? ⟨gu, ou + k * 11 + 8, none⟩ = some (.int .i64 u.abase) := ut 8 _ rfl
      have u9 : wq.cell? ⟨gu, ou + k * 11 + 9, none⟩ = some (.int .i64 u.save) := ut 9 _ rfl
      have u10 : wq.cell? ⟨gu, ou + k * 11 + 10, none⟩ = some (.string u.letter) := ut 10 _ rfl
      have hki : (k : Int) < (L.length : Int) := by omega
      have hkj : (k : Int) < (M.length : Int) := by have := HL.out; omega
      have HXX := Lib.hid hx; have HUU := Lib.hid hu; have HLT := Lib.hid hlt
      clear xt ut hx hu hlt
      by_cases hq : x = u
      · have hd : decide (x.name = u.name ∧ x.frm = u.frm ∧ x.til = u.til ∧ x.month = u.month ∧ x.dk = u.dk ∧ x.dw = u.dw ∧ x.dd = u.dd ∧ x.asec = u.asec ∧ x.abase = u.abase ∧ x.save = u.save ∧ x.letter = u.letter) = true := by rw [decide_eq_true_eq]; exact (rv_eq x u).1 hq
        have HTE := Lib.hid (eTo14.succ hte.out (HXX.out.trans (by rw [HUU.out, hq])))
        clear hq hte
        go_wp2_with fail
        go_quiet (fail)
        all_goals
          go_wp2_with fail
          go_roundw
          case rel => exact ⟨k + 1, by have := HLT.out; omega, by simp, below_drewN HBW.out _, HTE⟩
          case measure => have := HLT.out; simp [intOf]; omega
      · have hd : decide (x.name = u.name ∧ x.frm = u.frm ∧ x.til = u.til ∧ x.month = u.month ∧ x.dk = u.dk ∧ x.dw = u.dw ∧ x.dd = u.dd ∧ x.asec = u.asec ∧ x.abase = u.abase ∧ x.save = u.save ∧ x.letter = u.letter) = false := by rw [decide_eq_false_iff_not]; exact fun q => hq ((rv_eq x u).2 q)
        have HN := Lib.hid (show ¬ L = M from fun q => hq (by have h1 := HXX.out; rw [q, HUU.out] at h1; exact (Option.some.inj h1).symm))
        clear hq hte
        go_wp2_with fail
        go_quiet (fail)
        all_goals
          go_wp2_with fail
          go_ret
          exact ⟨false, ⟨fun h => (by cases h), fun h => absurd h HN.out⟩, rfl, below_drewN HBW.out _⟩
    · obtain rfl : k = L.length := by omega
      have HE := Lib.hid (eTo14.all hte.out HL.out)
      clear hte
      go_wp2_with fail
      go_ret
      exact ⟨true, ⟨fun _ => HE.out, fun _ => rfl⟩, rfl, HBW.out⟩
set_option maxRecDepth 100000 in
set_option maxHeartbeats 8000000 in
theorem equal_link (A B : Option Addr) (c d : Nat) (L M : List KV) (w : World) (hA : CellsIn 2 KV.cells w A L) (hB : CellsIn 2 KV.cells w B M) (hl : L.length ≤ 1100000) :
    Calls Tryd.prog 64 #[.slice A L.length c, .slice B M.length d] w fun e W => ∃ R : Bool, (R = true ↔ L = M) ∧ e = .returned (.bool R) ∧ Below w.heap.size w W := by
  by_cases hlen : L.length = M.length
  rotate_left
  · have hbn : ((L.length : Int) != (M.length : Int)) = true := by rw [bne_iff_ne]; omega
    have HL := Lib.hid hlen
    clear hA hB hlen hl
    go_enter Tryd.func64, Tryd.ntmps64
    go_wp2_with fail
    go_ret
    exact ⟨false, ⟨fun h => (by cases h), fun h => absurd (congrArg List.length h) HL.out⟩, rfl, Below.refl _ _⟩
  have hbn : ((L.length : Int) != (M.length : Int)) = false := by rw [bne_eq_false_iff_eq]; omega
  have HL := Lib.hid hlen; have HA := Lib.hid hA; have HB := Lib.hid hB
  have hl2 : (L.length : Int) ≤ 1100000 := by omega
  clear hlen hA hB
  go_enter Tryd.func64, Tryd.ntmps64
  go_wp2_with fail
  go_loopw [5, 13] (fun s5 i W => ∃ k : Nat, k ≤ L.length ∧ i = .int .i64 k ∧ Below w.heap.size w W ∧ Hid (eTo14 L M k)) (fun _ i _ => L.length - (intOf i).toNat)
  case atStart => exact ⟨0, Nat.zero_le _, rfl, Below.refl _ _, Lib.hid (fun i h => by omega)⟩
  case round =>
    obtain ⟨k, hk, rfl, hbw, hte⟩ := hrel
    obtain ⟨wq, hwq⟩ : ∃ x, x = wr := ⟨_, rfl⟩
    subst hwq
    have HBW := Lib.hid hbw
    clear hbw
    by_cases hlt : k < L.length
    · obtain ⟨x, hx⟩ : ∃ x, L[k]? = some x := ⟨_, List.getElem?_eq_getElem hlt⟩
      obtain ⟨u, hu⟩ : ∃ u, M[k]? = some u := ⟨_, List.getElem?_eq_getElem (by have := HL.out; omega)⟩
      obtain ⟨gx, ox, rfl, hgx, xt⟩ := (HA.out.below HBW.out) k x hx
      obtain ⟨gu, ou, rfl, hgu, ut⟩ := (HB.out.below HBW.out) k u hu
      have x0 : wq.cell? ⟨gx, ox + k * 2, none⟩ = some (.string x.target) := xt 0 _ rfl
      have x1 : wq.cell? ⟨gx, ox + k * 2 + 1, none⟩ = some (.string x.name) := xt 1 _ rfl
      have u0 : wq.cell? ⟨gu, ou + k * 2, none⟩ = some (.string u.target) := ut 0 _ rfl
      have u1 : wq.cell? ⟨gu, ou + k * 2 + 1, none⟩ = some (.string u.name) := ut 1 _ rfl
      have hki : (k : Int) < (L.length : Int) := by omega
      have hkj : (k : Int) < (M.length : Int) := by have := HL.out; omega
      have HXX := Lib.hid hx; have HUU := Lib.hid hu; have HLT := Lib.hid hlt
      clear xt ut hx hu hlt
      by_cases hq : x = u
      · have hd : decide (x.target = u.target ∧ x.name = u.name) = true := by rw [decide_eq_true_eq]; exact (kv_eq x u).1 hq
        have HTE := Lib.hid (eTo14.succ hte.out (HXX.out.trans (by rw [HUU.out, hq])))
        clear hq hte
        go_wp2_with fail
        go_quiet (fail)
        all_goals
          go_wp2_with fail
          go_roundw
          case rel => exact ⟨k + 1, by have := HLT.out; omega, by simp, below_drewN HBW.out _, HTE⟩
          case measure => have := HLT.out; simp [intOf]; omega
      · have hd : decide (x.target = u.target ∧ x.name = u.name) = false := by rw [decide_eq_false_iff_not]; exact fun q => hq ((kv_eq x u).2 q)
        have HN := Lib.hid (show ¬ L = M from fun q => hq (by have h1 := HXX.out; rw [q, HUU.out] at h1; exact (Option.some.inj h1).symm))
        clear hq hte
        go_wp2_with fail
        go_quiet (fail)
        all_goals
          go_wp2_with fail
          go_ret
          exact ⟨false, ⟨fun h => (by cases h), fun h => absurd h HN.out⟩, rfl, below_drewN HBW.out _⟩
    · obtain rfl : k = L.length := by omega
      have HE := Lib.hid (eTo14.all hte.out HL.out)
      clear hte
      go_wp2_with fail
      go_ret
      exact ⟨true, ⟨fun _ => HE.out, fun _ => rfl⟩, rfl, HBW.out⟩
set_option maxRecDepth 100000 in
set_option maxHeartbeats 8000000 in
theorem equal_str (A B : Option Addr) (c d : Nat) (L M : List ByteArray) (w : World) (hA : CellsIn 1 (fun b : ByteArray => [Value.string b]) w A L) (hB : CellsIn 1 (fun b : ByteArray => [Value.string b]) w B M) (hl : L.length ≤ 1100000) :
    Calls Tryd.prog 65 #[.slice A L.length c, .slice B M.length d] w fun e W => ∃ R : Bool, (R = true ↔ L = M) ∧ e = .returned (.bool R) ∧ Below w.heap.size w W := by
  by_cases hlen : L.length = M.length
  rotate_left
  · have hbn : ((L.length : Int) != (M.length : Int)) = true := by rw [bne_iff_ne]; omega
    have HL := Lib.hid hlen
    clear hA hB hlen hl
    go_enter Tryd.func65, Tryd.ntmps65
    go_wp2_with fail
    go_ret
    exact ⟨false, ⟨fun h => (by cases h), fun h => absurd (congrArg List.length h) HL.out⟩, rfl, Below.refl _ _⟩
  have hbn : ((L.length : Int) != (M.length : Int)) = false := by rw [bne_eq_false_iff_eq]; omega
  have HL := Lib.hid hlen; have HA := Lib.hid hA; have HB := Lib.hid hB
  have hl2 : (L.length : Int) ≤ 1100000 := by omega
  clear hlen hA hB
  go_enter Tryd.func65, Tryd.ntmps65
  go_wp2_with fail
  go_loopw [5, 13] (fun s5 i W => ∃ k : Nat, k ≤ L.length ∧ i = .int .i64 k ∧ Below w.heap.size w W ∧ Hid (eTo14 L M k)) (fun _ i _ => L.length - (intOf i).toNat)
  case atStart => exact ⟨0, Nat.zero_le _, rfl, Below.refl _ _, Lib.hid (fun i h => by omega)⟩
  case round =>
    obtain ⟨k, hk, rfl, hbw, hte⟩ := hrel
    obtain ⟨wq, hwq⟩ : ∃ x, x = wr := ⟨_, rfl⟩
    subst hwq
    have HBW := Lib.hid hbw
    clear hbw
    by_cases hlt : k < L.length
    · obtain ⟨x, hx⟩ : ∃ x, L[k]? = some x := ⟨_, List.getElem?_eq_getElem hlt⟩
      obtain ⟨u, hu⟩ : ∃ u, M[k]? = some u := ⟨_, List.getElem?_eq_getElem (by have := HL.out; omega)⟩
      obtain ⟨gx, ox, rfl, hgx, xt⟩ := (HA.out.below HBW.out) k x hx
      obtain ⟨gu, ou, rfl, hgu, ut⟩ := (HB.out.below HBW.out) k u hu
      have x0 : wq.cell? ⟨gx, ox + k, none⟩ = some (.string x) := (by have q := xt 0 _ rfl; simpa using q)
      have u0 : wq.cell? ⟨gu, ou + k, none⟩ = some (.string u) := (by have q := ut 0 _ rfl; simpa using q)
      have hki : (k : Int) < (L.length : Int) := by omega
      have hkj : (k : Int) < (M.length : Int) := by have := HL.out; omega
      have HXX := Lib.hid hx; have HUU := Lib.hid hu; have HLT := Lib.hid hlt
      clear xt ut hx hu hlt
      by_cases hq : x = u
      · have hd : (x.toList == u.toList) = true := by rw [hq]; simp
        have HTE := Lib.hid (eTo14.succ hte.out (HXX.out.trans (by rw [HUU.out, hq])))
        clear hq hte
        go_wp2_with fail
        go_quiet (fail)
        all_goals
          go_wp2_with fail
          go_roundw
          case rel => exact ⟨k + 1, by have := HLT.out; omega, by simp, below_drewN HBW.out _, HTE⟩
          case measure => have := HLT.out; simp [intOf]; omega
      · have hd : (x.toList == u.toList) = false := eq_b _ _ hq
        have HN := Lib.hid (show ¬ L = M from fun q => hq (by have h1 := HXX.out; rw [q, HUU.out] at h1; exact (Option.some.inj h1).symm))
        clear hq hte
        go_wp2_with fail
        go_quiet (fail)
        all_goals
          go_wp2_with fail
          go_ret
          exact ⟨false, ⟨fun h => (by cases h), fun h => absurd h HN.out⟩, rfl, below_drewN HBW.out _⟩
    · obtain rfl : k = L.length := by omega
      have HE := Lib.hid (eTo14.all hte.out HL.out)
      clear hte
      go_wp2_with fail
      go_ret
      exact ⟨true, ⟨fun _ => HE.out, fun _ => rfl⟩, rfl, HBW.out⟩
set_option maxRecDepth 100000 in
set_option maxHeartbeats 8000000 in
theorem equal_era (A B : Option Addr) (c d : Nat) (L M : List EV) (w : World) (hA : CellsIn 13 EV.cells w A L) (hB : CellsIn 13 EV.cells w B M) (hl : L.length ≤ 1100000) :
    Calls Tryd.prog 63 #[.slice A L.length c, .slice B M.length d] w fun e W => ∃ R : Bool, (R = true ↔ L = M) ∧ e = .returned (.bool R) ∧ Below w.heap.size w W := by
  by_cases hlen : L.length = M.length
  rotate_left
  · have hbn : ((L.length : Int) != (M.length : Int)) = true := by rw [bne_iff_ne]; omega
    have HL := Lib.hid hlen
    clear hA hB hlen hl
    go_enter Tryd.func63, Tryd.ntmps63
    go_wp2_with fail
    go_ret
    exact ⟨false, ⟨fun h => (by cases h), fun h => absurd (congrArg List.length h) HL.out⟩, rfl, Below.refl _ _⟩
  have hbn : ((L.length : Int) != (M.length : Int)) = false := by rw [bne_eq_false_iff_eq]; omega
  have HL := Lib.hid hlen; have HA := Lib.hid hA; have HB := Lib.hid hB
  have hl2 : (L.length : Int) ≤ 1100000 := by omega
  clear hlen hA hB
  go_enter Tryd.func63, Tryd.ntmps63
  go_wp2_with fail
  go_loopw [5, 13] (fun s5 i W => ∃ k : Nat, k ≤ L.length ∧ i = .int .i64 k ∧ Below w.heap.size w W ∧ Hid (eTo14 L M k)) (fun _ i _ => L.length - (intOf i).toNat)
  case atStart => exact ⟨0, Nat.zero_le _, rfl, Below.refl _ _, Lib.hid (fun i h => by omega)⟩
  case round =>
    obtain ⟨k, hk, rfl, hbw, hte⟩ := hrel
    obtain ⟨wq, hwq⟩ : ∃ x, x = wr := ⟨_, rfl⟩
    subst hwq
    have HBW := Lib.hid hbw
    clear hbw
    by_cases hlt : k < L.length
    · obtain ⟨x, hx⟩ : ∃ x, L[k]? = some x := ⟨_, List.getElem?_eq_getElem hlt⟩
      obtain ⟨u, hu⟩ : ∃ u, M[k]? = some u := ⟨_, List.getElem?_eq_getElem (by have := HL.out; omega)⟩
      obtain ⟨gx, ox, rfl, hgx, xt⟩ := (HA.out.below HBW.out) k x hx
      obtain ⟨gu, ou, rfl, hgu, ut⟩ := (HB.out.below HBW.out) k u hu
      have x0 : wq.cell? ⟨gx, ox + k * 13, none⟩ = some (.int .i64 x.off) := xt 0 _ rfl
      have x1 : wq.cell? ⟨gx, ox + k * 13 + 1, none⟩ = some (.int .i64 x.kind) := xt 1 _ rfl
      have x2 : wq.cell? ⟨gx, ox + k * 13 + 2, none⟩ = some (.int .i64 x.save) := xt 2 _ rfl
      have x3 : wq.cell? ⟨gx, ox + k * 13 + 3, none⟩ = some (.string x.set) := xt 3 _ rfl
      have x4 : wq.cell? ⟨gx, ox + k * 13 + 4, none⟩ = some (.string x.fmt) := xt 4 _ rfl
      have x5 : wq.cell? ⟨gx, ox + k * 13 + 5, none⟩ = some (.bool x.ui) := xt 5 _ rfl
      have x6 : wq.cell? ⟨gx, ox + k * 13 + 6, none⟩ = some (.int .i64 x.uy) := xt 6 _ rfl
      have x7 : wq.cell? ⟨gx, ox + k * 13 + 7, none⟩ = some (.int .i64 x.um) := xt 7 _ rfl
      have x8 : wq.cell? ⟨gx, ox + k * 13 + 8, none⟩ = some (.int .i64 x.dk) := xt 8 _ rfl
      have x9 : wq.cell? ⟨gx, ox + k * 13 + 9, none⟩ = some (.int .i64 x.dw) := xt 9 _ rfl
      have x10 : wq.cell? ⟨gx, ox + k * 13 + 10, none⟩ = some (.int .i64 x.dd) := xt 10 _ rfl
      have x11 : wq.cell? ⟨gx, ox + k * 13 + 11, none⟩ = some (.int .i64 x.asec) := xt 11 _ rfl
      have x12 : wq.cell? ⟨gx, ox + k * 13 + 12, none⟩ = some (.int .i64 x.ab) := xt 12 _ rfl
      have u0 : wq.cell? ⟨gu, ou + k * 13, none⟩ = some (.int .i64 u.off) := ut 0 _ rfl
      have u1 : wq.cell? ⟨gu, ou + k * 13 + 1, none⟩ = some (.int .i64 u.kind) := ut 1 _ rfl
      have u2 : wq.cell? ⟨gu, ou + k * 13 + 2, none⟩ = some (.int .i64 u.save) := ut 2 _ rfl
      have u3 : wq.cell? ⟨gu, ou + k * 13 + 3, none⟩ = some (.string u.set) := ut 3 _ rfl
      have u4 : wq.cell? ⟨gu, ou + k * 13 + 4, none⟩ = some (.string u.fmt) := ut 4 _ rfl
      have u5 : wq.cell? ⟨gu, ou + k * 13 + 5, none⟩ = some (.bool u.ui) := ut 5 _ rfl
      have u6 : wq.cell? ⟨gu, ou + k * 13 + 6, none⟩ = some (.int .i64 u.uy) := ut 6 _ rfl
      have u7 : wq.cell? ⟨gu, ou + k * 13 + 7, none⟩ = some (.int .i64 u.um) := ut 7 _ rfl
      have u8 : wq.cell? ⟨gu, ou + k * 13 + 8, none⟩ = some (.int .i64 u.dk) := ut 8 _ rfl
      have u9 : wq.cell? ⟨gu, ou + k * 13 + 9, none⟩ = some (.int .i64 u.dw) := ut 9 _ rfl
      have u10 : wq.cell? ⟨gu, ou + k * 13 + 10, none⟩ = some (.int .i64 u.dd) := ut 10 _ rfl
      have u11 : wq.cell? ⟨gu, ou + k * 13 + 11, none⟩ = some (.int .i64 u.asec) := ut 11 _ rfl
      have u12 : wq.cell? ⟨gu, ou + k * 13 + 12, none⟩ = some (.int .i64 u.ab) := ut 12 _ rfl
      have hki : (k : Int) < (L.length : Int) := by omega
      have hkj : (k : Int) < (M.length : Int) := by have := HL.out; omega
      have HXX := Lib.hid hx; have HUU := Lib.hid hu; have HLT := Lib.hid hlt
      clear xt ut hx hu hlt
      by_cases hq : x = u
      · have hd : decide (x.off = u.off ∧ x.kind = u.kind ∧ x.save = u.save ∧ x.set = u.set ∧ x.fmt = u.fmt ∧ x.ui = u.ui ∧ x.uy = u.uy ∧ x.um = u.um ∧ x.dk = u.dk ∧ x.dw = u.dw ∧ x.dd = u.dd ∧ x.asec = u.asec ∧ x.ab = u.ab) = true := by rw [decide_eq_true_eq]; exact (ev_eq x u).1 hq
        have HTE := Lib.hid (eTo14.succ hte.out (HXX.out.trans (by rw [HUU.out, hq])))
        clear hq hte
        go_wp2_with fail
        go_quiet (fail)
        all_goals
          go_wp2_with fail
          go_roundw
          case rel => exact ⟨k + 1, by have := HLT.out; omega, by simp, below_drewN HBW.out _, HTE⟩
          case measure => have := HLT.out; simp [intOf]; omega
      · have hd : decide (x.off = u.off ∧ x.kind = u.kind ∧ x.save = u.save ∧ x.set = u.set ∧ x.fmt = u.fmt ∧ x.ui = u.ui ∧ x.uy = u.uy ∧ x.um = u.um ∧ x.dk = u.dk ∧ x.dw = u.dw ∧ x.dd = u.dd ∧ x.asec = u.asec ∧ x.ab = u.ab) = false := by rw [decide_eq_false_iff_not]; exact fun q => hq ((ev_eq x u).2 q)
        have HN := Lib.hid (show ¬ L = M from fun q => hq (by have h1 := HXX.out; rw [q, HUU.out] at h1; exact (Option.some.inj h1).symm))
        clear hq hte
        go_wp2_with fail
        go_quiet (fail)
        all_goals
          go_wp2_with fail
          go_ret
          exact ⟨false, ⟨fun h => (by cases h), fun h => absurd h HN.out⟩, rfl, below_drewN HBW.out _⟩
    · obtain rfl : k = L.length := by omega
      have HE := Lib.hid (eTo14.all hte.out HL.out)
      clear hte
      go_wp2_with fail
      go_ret
      exact ⟨true, ⟨fun _ => HE.out, fun _ => rfl⟩, rfl, HBW.out⟩
set_option maxRecDepth 100000 in
set_option maxHeartbeats 8000000 in
theorem zsame_any (x y : ZV) (w : World) (hx : CellsIn 13 EV.cells w x.A x.eras) (hy : CellsIn 13 EV.cells w y.A y.eras) (hl : x.eras.length ≤ 1100000) :
    Calls Tryd.prog 62 #[.agg #[.string x.name, .slice x.A x.eras.length x.c], .agg #[.string y.name, .slice y.A y.eras.length y.c]] w fun e W => ∃ R : Bool, (R = true ↔ x.name = y.name ∧ x.eras = y.eras) ∧ e = .returned (.bool R) ∧ Below w.heap.size w W := by
  have hb0 := ((Below.refl w.heap.size w).alloc (Nat.le_refl _) (.cells #[.string x.name, .slice x.A x.eras.length x.c] 39)).alloc (by simp) (.cells #[.string y.name, .slice y.A y.eras.length y.c] 39)
  have hx0 := (Blk.new w 39 #[.string x.name, .slice x.A x.eras.length x.c]).alloc (.cells #[.string y.name, .slice y.A y.eras.length y.c] 39)
  have hy0 := Blk.newAt (w.alloc (.cells #[.string x.name, .slice x.A x.eras.length x.c] 39)) (w.heap.size + 1) (by simp) 39 #[.string y.name, .slice y.A y.eras.length y.c]
  have cE := Lib.hid (equal_era x.A y.A x.c y.c x.eras y.eras _ (hx.below hb0) (hy.below hb0) hl)
  have HB0 := Lib.hid hb0
  have c0 := (hx0.cell 0).trans rfl; have c1 := (hx0.cell 1).trans rfl
  have d0 := (hy0.cell 0).trans rfl; have d1 := (hy0.cell 1).trans rfl
  clear hx hy hb0 hx0 hy0
  by_cases hn : x.name = y.name
  · have bn : (x.name.toList == y.name.toList) = true := by rw [hn]; simp
    have HN := Lib.hid hn
    clear hn
    go_enter Tryd.func62, Tryd.ntmps62
    go_wp2_with fail
    refine cE.out.mono ?_
    rintro e W ⟨R, hR, rfl, hc⟩
    have HR := Lib.hid hR; have HC := Lib.hid (HB0.out.trans (hc.mono HB0.out.size))
    clear hR hc cE c0 c1 d0 d1
    go_wp2_with fail
    go_ret
    exact ⟨R, ⟨fun h => ⟨HN.out, HR.out.1 h⟩, fun h => HR.out.2 h.2⟩, rfl, HC.out⟩
  · have bn : (x.name.toList == y.name.toList) = false := eq_b _ _ hn
    have HN := Lib.hid hn
    clear hn cE
    go_enter Tryd.func62, Tryd.ntmps62
    go_wp2_with fail
    go_ret
    exact ⟨false, ⟨fun h => (by cases h), fun h => absurd h.1 HN.out⟩, rfl, HB0.out⟩
set_option maxRecDepth 100000 in
set_option maxHeartbeats 8000000 in
theorem equal_zones (Z Y : List ZV) (A B : Option Addr) (c d : Nat) (w : World) (hZ : CellsIn 2 ZV.cells w A Z) (hY : CellsIn 2 ZV.cells w B Y) (eZ : ∀ z ∈ Z, CellsIn 13 EV.cells w z.A z.eras) (eY : ∀ z ∈ Y, CellsIn 13 EV.cells w z.A z.eras) (hl : Z.length ≤ 1000) (hm : ∀ z ∈ Z, z.eras.length ≤ 1000) :
    Calls Tryd.prog 61 #[.slice A Z.length c, .slice B Y.length d, .func (.func 62) #[] #[]] w fun e W => ∃ R : Bool, (R = true ↔ zSame14 Z Y) ∧ e = .returned (.bool R) ∧ Below w.heap.size w W := by
  by_cases hlen : Z.length = Y.length
  rotate_left
  · have hbn : ((Z.length : Int) != (Y.length : Int)) = true := by rw [bne_iff_ne]; omega
    have HL := Lib.hid hlen
    clear hZ hY eZ eY hlen hl hm
    go_enter Tryd.func61, Tryd.ntmps61
    go_wp2_with fail
    go_ret
    exact ⟨false, ⟨fun h => (by cases h), fun h => absurd h.1 HL.out⟩, rfl, Below.refl _ _⟩
  have hbn : ((Z.length : Int) != (Y.length : Int)) = false := by rw [bne_eq_false_iff_eq]; omega
  have HL := Lib.hid hlen; have HZ := Lib.hid hZ; have HY := Lib.hid hY; have EZ := Lib.hid eZ; have EY := Lib.hid eY; have HM := Lib.hid hm
  have hent : ∀ args w, (callFunc 62 args).run Tryd.prog w = .ok (.enter 62 args) w := enters_of Tryd.func62 (by kernel_rfl) rfl
  have hl2 : (Z.length : Int) ≤ 1000 := by omega
  clear hZ hY eZ eY hlen hm
  go_enter Tryd.func61, Tryd.ntmps61
  go_wp2_with fail
  go_loopw [7, 8, 9, 17] (fun s7 s8 s9 i W => ∃ k : Nat, k ≤ Z.length ∧ i = .int .i64 k ∧ Below w.heap.size w W ∧ Hid (zTo14 Z Y k)) (fun _ _ _ i _ => Z.length - (intOf i).toNat)
  case atStart => exact ⟨0, Nat.zero_le _, rfl, Below.refl _ _, Lib.hid (fun i z y h => by omega)⟩
  case round =>
    obtain ⟨wq, hwq⟩ : ∃ x, x = wr := ⟨_, rfl⟩
    subst hwq
    obtain ⟨k, hk, rfl, hbw, hto⟩ := hrel
    have HBW := Lib.hid hbw
    clear hbw
    by_cases hlt : k < Z.length
    · obtain ⟨z, hz⟩ : ∃ z, Z[k]? = some z := ⟨_, List.getElem?_eq_getElem hlt⟩
      obtain ⟨y, hy⟩ : ∃ y, Y[k]? = some y := ⟨_, List.getElem?_eq_getElem (by have := HL.out; omega)⟩
      obtain ⟨gz, oz, rfl, hgz, hzt⟩ := (HZ.out.below HBW.out) k z hz
      obtain ⟨gy, oy, rfl, hgy, hyt⟩ := (HY.out.below HBW.out) k y hy
      have hb2 := (HBW.out.alloc HBW.out.size (.cells #[.string z.name, .slice z.A z.eras.length z.c] 39)).alloc (by have := HBW.out.size; simp; omega) (.cells #[.string y.name, .slice y.A y.eras.length y.c] 39)
      have cE := Lib.hid (zsame_any z y _ ((EZ.out z (List.mem_of_getElem? hz)).below hb2) ((EY.out y (List.mem_of_getElem? hy)).below hb2) (by have := HM.out z (List.mem_of_getElem? hz); omega))
      have HB2 := Lib.hid hb2
      have e0 := (((Blk.new wq 39 #[.string z.name, .slice z.A z.eras.length z.c]).alloc (.cells #[.string y.name, .slice y.A y.eras.length y.c] 39)).cell 0).trans rfl
      have e1 := (((Blk.new wq 39 #[.string z.name, .slice z.A z.eras.length z.c]).alloc (.cells #[.string y.name, .slice y.A y.eras.length y.c] 39)).cell 1).trans rfl
      have f0 := ((Blk.newAt (wq.alloc (.cells #[.string z.name, .slice z.A z.eras.length z.c] 39)) (wq.heap.size + 1) (by simp) 39 #[.string y.name, .slice y.A y.eras.length y.c]).cell 0).trans rfl
      have f1 := ((Blk.newAt (wq.alloc (.cells #[.string z.name, .slice z.A z.eras.length z.c] 39)) (wq.heap.size + 1) (by simp) 39 #[.string y.name, .slice y.A y.eras.length y.c]).cell 1).trans rfl
      have a0 : wq.cell? ⟨gz, oz + k * 2, none⟩ = some (.string z.name) := hzt 0 _ rfl
      have a1 : wq.cell? ⟨gz, oz + k * 2 + 1, none⟩ = some (.slice z.A z.eras.length z.c) := hzt 1 _ rfl
      have hal := (Below.refl wq.heap.size wq).alloc (Nat.le_refl _) (.cells #[.string z.name, .slice z.A z.eras.length z.c] 39)
      have b0 : (wq.alloc (.cells #[.string z.name, .slice z.A z.eras.length z.c] 39)).cell? ⟨gy, oy + k * 2, none⟩ = some (.string y.name) := (hal.cell (p := ⟨gy, oy + k * 2, none⟩) hgy).trans (hyt 0 _ rfl)
      have b1 : (wq.alloc (.cells #[.string z.name, .slice z.A z.eras.length z.c] 39)).cell? ⟨gy, oy + k * 2 + 1, none⟩ = some (.slice y.A y.eras.length y.c) := (hal.cell (p := ⟨gy, oy + k * 2 + 1, none⟩) hgy).trans (hyt 1 _ rfl)
      have hki : (k : Int) < (Z.length : Int) := by omega
      have hkj : (k : Int) < (Y.length : Int) := by have := HL.out; omega
      have HKZ := Lib.hid hz; have HKY := Lib.hid hy; have HLT := Lib.hid hlt
      clear hzt hyt hz hy hlt hb2 hal
      go_wp2_with fail
      refine cE.out.mono ?_
      rintro e W2 ⟨R, hR, rfl, hc⟩
      have HC := Lib.hid (HB2.out.trans (hc.mono HB2.out.size)); have HR := Lib.hid hR
      clear hc hR cE a0 a1 b0 b1 e0 e1 f0 f1
      cases R with
      | true =>
        have HTO := Lib.hid (hto.out.succ HKZ.out HKY.out (HR.out.1 rfl).1 (HR.out.1 rfl).2)
        clear hto
        go_wp2_with fail
        go_roundw
        case rel => exact ⟨k + 1, by have := HLT.out; omega, by simp, HC.out, HTO⟩
        case measure => have := HLT.out; simp [intOf]; omega
      | false =>
        have HN := Lib.hid (show ¬ zSame14 Z Y from fun q => by have := HR.out.2 (q.2 k z y HLT.out HKZ.out HKY.out); cases this)
        clear hto
        go_wp2_with fail
        go_ret
        exact ⟨false, ⟨fun h => (by cases h), fun h => absurd h HN.out⟩, rfl, HC.out⟩
    · obtain rfl : k = Z.length := by omega
      have HE := Lib.hid (show zSame14 Z Y from ⟨HL.out, hto.out⟩)
      clear hto
      go_wp2_with fail
      go_ret
      exact ⟨true, ⟨fun _ => HE.out, fun _ => rfl⟩, rfl, HBW.out⟩
set_option maxRecDepth 100000 in
set_option maxHeartbeats 8000000 in
theorem same13_any (a b : SV) (w : World) (hA : SrcIn w a) (hB : SrcIn w b) (hf : big14 a) :
    Calls Tryd.prog 34 #[.agg #[.slice a.rA a.rules.length a.rc, .slice a.zA a.zones.length a.zc, .slice a.kA a.links.length a.kc, .slice a.hA a.shifts.length a.hc], .agg #[.slice b.rA b.rules.length b.rc, .slice b.zA b.zones.length b.zc, .slice b.kA b.links.length b.kc, .slice b.hA b.shifts.length b.hc]] w fun e W => ∃ R : Bool, (R = true ↔ sSame14 a b) ∧ e = .returned (.bool R) ∧ Below w.heap.size w W := by
  have HA := Lib.hid hA; have HB := Lib.hid hB; have HF := Lib.hid hf
  have HX := Lib.hid (box14_new w a b)
  have hent : ∀ args w, (callFunc 62 args).run Tryd.prog w = .ok (.enter 62 args) w := enters_of Tryd.func62 (by kernel_rfl) rfl
  have cR := Lib.hid (fun W (h : Below w.heap.size w W) => equal_rule a.rA b.rA a.rc b.rc a.rules b.rules W (HA.out.rules.below h) (HB.out.rules.below h) (by have := HF.out.1; omega))
  have cZ := Lib.hid (fun W (h : Below w.heap.size w W) => equal_zones a.zones b.zones a.zA b.zA a.zc b.zc W (HA.out.zones.below h) (HB.out.zones.below h) (fun z hz => (HA.out.eras z hz).below h) (fun z hz => (HB.out.eras z hz).below h) HF.out.2.1 HF.out.2.2.2.2)
  have cK := Lib.hid (fun W (h : Below w.heap.size w W) => equal_link a.kA b.kA a.kc b.kc a.links b.links W (HA.out.links.below h) (HB.out.links.below h) (by have := HF.out.2.2.1; omega))
  have cH := Lib.hid (fun W (h : Below w.heap.size w W) => equal_str a.hA b.hA a.hc b.hc a.shifts b.shifts W (HA.out.shifts.below h) (HB.out.shifts.below h) (by have := HF.out.2.2.2.1; omega))
  clear hA hB hf
  go_enter Tryd.func34, Tryd.ntmps34
  have c0 := (HX.out.one.cell 0).trans rfl; have d0 := (HX.out.two.cell 0).trans rfl
  go_wp2_with fail
  refine (cR.out _ HX.out.bel).mono ?_
  rintro e W0 ⟨R0, hR, rfl, hc⟩
  have HX0 := Lib.hid (HX.out.below hc); have HR0 := Lib.hid hR
  clear hR hc cR c0 d0 HX
  cases R0 with
  | false =>
    go_wp2_with fail
    go_ret
    exact ⟨false, ⟨fun h => (by cases h), fun h => absurd (HR0.out.2 h.rules) (by simp)⟩, rfl, HX0.out.bel⟩
  | true =>
    have c1 := (HX0.out.one.cell 1).trans rfl; have d1 := (HX0.out.two.cell 1).trans rfl
    go_wp2_with fail
    refine (cZ.out _ HX0.out.bel).mono ?_
    rintro e W1 ⟨R1, hR, rfl, hc⟩
    have HX1 := Lib.hid (HX0.out.below hc); have HR1 := Lib.hid hR
    clear hR hc cZ c1 d1 HX0
    cases R1 with
    | false =>
      go_wp2_with fail
      go_ret
      exact ⟨false, ⟨fun h => (by cases h), fun h => absurd (HR1.out.2 h.zones) (by simp)⟩, rfl, HX1.out.bel⟩
    | true =>
      have c2 := (HX1.out.one.cell 2).trans rfl; have d2 := (HX1.out.two.cell 2).trans rfl
      go_wp2_with fail
      refine (cK.out _ HX1.out.bel).mono ?_
      rintro e W2 ⟨R2, hR, rfl, hc⟩
      have HX2 := Lib.hid (HX1.out.below hc); have HR2 := Lib.hid hR
      clear hR hc cK c2 d2 HX1
      cases R2 with
      | false =>
        go_wp2_with fail
        go_ret
        exact ⟨false, ⟨fun h => (by cases h), fun h => absurd (HR2.out.2 h.links) (by simp)⟩, rfl, HX2.out.bel⟩
      | true =>
        have c3 := (HX2.out.one.cell 3).trans rfl; have d3 := (HX2.out.two.cell 3).trans rfl
        go_wp2_with fail
        refine (cH.out _ HX2.out.bel).mono ?_
        rintro e W3 ⟨R3, hR, rfl, hc⟩
        have HX3 := Lib.hid (HX2.out.below hc); have HR3 := Lib.hid hR
        clear hR hc cH c3 d3 HX2
        go_wp2_with fail
        go_ret
        exact ⟨R3, ⟨fun h => ⟨HR0.out.1 (by trivial), HR2.out.1 (by trivial), HR3.out.1 h, HR1.out.1 (by trivial)⟩, fun h => HR3.out.2 h.shifts⟩, rfl, HX3.out.bel⟩
end Go.Proofs.YtlideagcmhlkeaaDoor

/- Where the loop over the links of layer 25 stands. No walk. -/
namespace Go.Proofs.YtlideagcmhlkeaaDoor
open Go.RowKit Go.Lib
set_option linter.unusedVariables false

/-- where the loop over the links stands; w2: where it began -/
structure Ll (w w2 W : World) (d : D25) (n : Nat) (rv zv : Value) (kA : Option Addr) (kc : Nat) (K : List KV) : Prop where
  bx : Bx w W d n
  kl : KL w2.heap.size [w.heap.size + 2, w.heap.size + 6] w2 W
  own : Blk W (w.heap.size + 6) 32 #[rv, zv, .slice kA K.length kc, .slice none 0 0]
  krow : RowOf W w2.heap.size 94 2 KV.cells kA kc K
section
variable {w w1 w2 W W' W0 : World} {d : D25} {n kc : Nat} {rv zv : Value} {kA : Option Addr} {K : List KV}
theorem Ll.below (h : Ll w w2 W d n rv zv kA kc K) (hb : Below W.heap.size W W') : Ll w w2 W' d n rv zv kA kc K := ⟨h.bx.below hb, h.kl.below hb, h.own.below hb h.own.lt, h.krow.below hb⟩
theorem Ll.step (h : Ll w w2 W d n rv zv kA kc K) (hw : w.heap.size + 7 ≤ w2.heap.size) (hx : Bx w W' d (n + 1)) (hc : CS (w.heap.size + 2) W W') : Ll w w2 W' d (n + 1) rv zv kA kc K :=
  ⟨hx, hc.kl h.kl (by simp), hc.box h.own (by omega), hc.row (by omega) h.krow⟩
/-- one link more -/
theorem Ll.snoc (h : Ll w w2 W d n rv zv kA kc K) (hw : w.heap.size + 7 ≤ w2.heap.size) {kA' : Option Addr} {kc' : Nat} {x : KV} (hg : W.grownBy W' (Value.slice kA K.length kc).ownBlock) (hr : RowOf W' w2.heap.size 94 2 KV.cells kA' kc' (K ++ [x])) :
    Ll w w2 (W'.setCell ⟨w.heap.size + 6, 2, none⟩ (.slice kA' (K.length + 1) kc')) d n rv zv kA' kc' (K ++ [x]) := by
  have hl : K.length + 1 = (K ++ [x]).length := by simp
  rw [hl]
  have o := blk_other h.own h.krow (by decide) hg
  exact ⟨(h.bx.grown h.krow hg (by omega) (by decide) (by decide) (by decide) (by decide)).set_ (Nat.le_refl _) 2 _, (h.kl.grown h.krow hg (Nat.le_refl _)).set_ (.inl (by simp)) _, o.set_ 2 _, row_box hr o (by decide) 2 _⟩
/-- the zones' rows stand while links are made -/
theorem Ll.rows {yA : Option Addr} {yc m : Nat} {Y : List ZV} (h : Ll w w2 W d n rv zv kA kc K) (hz : Zl w w1 w2 d m rv yA yc Y) (hlt : w.heap.size + 7 ≤ w1.heap.size) :
    RowOf W w1.heap.size 39 2 ZV.cells yA yc Y ∧ (∀ y ∈ Y, RowOf W w1.heap.size 47 13 EV.cells y.A y.c y.eras) ∧ KL w1.heap.size [w.heap.size + 2, w.heap.size + 6] w1 W := by
  have hle := hz.kl.le
  have key : ∀ g, w1.heap.size ≤ g → g < w2.heap.size → g < w2.heap.size ∧ g ∉ [w.heap.size + 2, w.heap.size + 6] := fun g h1 h2 => ⟨h2, by simp; omega⟩
  refine ⟨h.kl.row2 (fun g hg => ?_) hz.zrow, fun y hy => h.kl.row2 (fun g hg => ?_) (hz.eras y hy), hz.kl.trans h.kl hle (fun y hy => .inl hy)⟩
  · have q := World.ownsRow.lt hz.zrow g hg
    exact key g q.1 q.2
  · have q := World.ownsRow.lt (hz.eras y hy) g hg
    exact key g q.1 q.2
/-- where a region of the loop stands that asks the counter once -/
structure S5 (w w2 W0 W : World) (d : D25) (n : Nat) (rv zv : Value) (kA : Option Addr) (kc : Nat) (K : List KV) (a : Bool) : Prop where
  el : ∃ N, N = n + a.toNat ∧ Ll w w2 W d N rv zv kA kc K
  le : W0.heap.size ≤ W.heap.size
theorem S5.one (h : S5 w w2 W0 W d n rv zv kA kc K false) : Ll w w2 W d n rv zv kA kc K := by
  obtain ⟨N, h1, h2⟩ := h.el
  have e : N = n := h1
  rw [e] at h2
  exact h2
theorem S5.all (h : S5 w w2 W0 W d n rv zv kA kc K true) : Ll w w2 W d (n + 1) rv zv kA kc K := by
  obtain ⟨N, h1, h2⟩ := h.el
  have e : N = n + 1 := h1
  rw [e] at h2
  exact h2
theorem S5.at1 (h : S5 w w2 W0 W d n rv zv kA kc K false) (hw : w.heap.size + 7 ≤ w2.heap.size) (hx : Bx w W' d (n + 1)) (hc : CS (w.heap.size + 2) W W') : S5 w w2 W0 W' d n rv zv kA kc K true :=
  ⟨⟨n + 1, rfl, h.one.step hw hx hc⟩, by rw [hc.sz]; exact h.le⟩
end
/-- the name of a zone in its row -/
theorem zone_name {W : World} {base yB yc : Nat} {Y : List ZV} {T : Nat} {nm : ByteArray} (h : RowOf W base 39 2 ZV.cells (some ⟨yB, 0, none⟩) yc Y) (hn : (Y.map fun z => z.name)[T]? = some nm) : W.cell? ⟨yB, T * 2, none⟩ = some (.string nm) := by
  rw [List.getElem?_map] at hn
  cases hz : Y[T]? with
  | none => rw [hz] at hn; cases hn
  | some z =>
    rw [hz] at hn
    injection hn with hn
    have q := h.cellAt len_zone hz 0 (.string z.name) rfl
    rw [← hn]
    simpa using q
/-- the links that a draft makes -/
theorem links_is {d : D25} {k n m r Z : Nat} {Y : List ZV} {K : List KV} (hzt : P25.zonesTo d.nums d.dr k Z = (Y.map (fun z => (z.name, z.eras)), n)) (hk : k = d.made) (hz : Z = d.zn) (hlk : P25.linksTo d.nums (Y.map fun z => z.name) n r = (K, m)) (h0 : 0 < r → 0 < Y.length) (hr : 0 < Y.length → r = d.ln) :
    Y.map (fun z => (z.name, z.eras)) = d.zl.1 ∧ K = if d.zn = 0 then [] else (P25.linksTo d.nums (d.zl.1.map (·.1)) d.zl.2 d.ln).1 := by
  subst hk; subst hz
  have hl : Y.length = d.zn := by
    have q := zones25_len d.nums d.dr d.made d.zn
    rw [hzt] at q
    simpa using q
  have hzl : d.zl = (Y.map (fun z => (z.name, z.eras)), n) := hzt
  rw [hzl]
  refine ⟨rfl, ?_⟩
  by_cases hy : Y.length = 0
  · rw [if_pos (by omega)]
    have hr0 : r = 0 := by
      by_cases q : 0 < r
      · have := h0 q; omega
      · omega
    subst hr0
    have e : ([], n) = (K, m) := hlk
    injection e with e1 e2
    exact e1.symm
  · rw [if_neg (by omega)]
    have hr1 := hr (by omega)
    show K = (P25.linksTo d.nums ((Y.map (fun z => (z.name, z.eras))).map (·.1)) n d.ln).1
    rw [List.map_map]
    have e : (Y.map ((fun x : ByteArray × List EV => x.1) ∘ fun z => (z.name, z.eras))) = Y.map fun z => z.name := rfl
    rw [e, ← hr1, hlk]
/-- where the region stands that appends a link; b: the row has grown -/
structure Lr (w wo W0 W : World) (d : D25) (m : Nat) (rv zv : Value) (kA : Option Addr) (kc : Nat) (K : List KV) (b : Bool) : Prop where
  bx : Bx w W d m
  kl : KL wo.heap.size [w.heap.size + 2, w.heap.size + 6] wo W
  own : ∃ v, Blk W (w.heap.size + 6) 32 #[rv, zv, v, .slice none 0 0] ∧ (b = false → v = .slice kA K.length kc)
  le : W0.heap.size ≤ W.heap.size
  ahead : b = false → RowOf W wo.heap.size 94 2 KV.cells kA kc K ∧ Below W0.heap.size W0 W
section
variable {w wo W0 W W' : World} {d : D25} {m kc : Nat} {rv zv : Value} {kA : Option Addr} {K : List KV}
theorem Lr.of (h : Ll w wo W d m rv zv kA kc K) : Lr w wo W W d m rv zv kA kc K false := ⟨h.bx, h.kl, ⟨_, h.own, fun _ => rfl⟩, Nat.le_refl _, fun _ => ⟨h.krow, Below.refl _ _⟩⟩
theorem Lr.or {b x : Bool} (h : Lr w wo W0 W d m rv zv kA kc K b) : Lr w wo W0 W d m rv zv kA kc K (b || x) :=
  ⟨h.bx, h.kl, by obtain ⟨v, h1, h2⟩ := h.own; exact ⟨v, h1, fun q => h2 (Bool.or_eq_false_iff.1 q).1⟩, h.le, fun q => h.ahead (Bool.or_eq_false_iff.1 q).1⟩
theorem Lr.below {b : Bool} (h : Lr w wo W0 W d m rv zv kA kc K b) (hb : Below W.heap.size W W') : Lr w wo W0 W' d m rv zv kA kc K b :=
  ⟨h.bx.below hb, h.kl.below hb, by obtain ⟨v, h1, h2⟩ := h.own; exact ⟨v, h1.below hb h1.lt, h2⟩, Nat.le_trans h.le hb.size, fun q => ⟨(h.ahead q).1.below hb, (h.ahead q).2.trans (hb.mono h.le)⟩⟩
theorem Lr.grown (h : Lr w wo W0 W d m rv zv kA kc K false) (hw : w.heap.size + 7 ≤ wo.heap.size) (hz : RowOf W wo.heap.size 94 2 KV.cells kA kc K) (hgr : W.grownBy W' (Value.slice kA K.length kc).ownBlock) : Lr w wo W0 W' d m rv zv kA kc K true :=
  ⟨h.bx.grown hz hgr (by omega) (by decide) (by decide) (by decide) (by decide), h.kl.grown hz hgr (Nat.le_refl _), by obtain ⟨v, h1, h2⟩ := h.own; exact ⟨v, blk_other h1 hz (by decide) hgr, fun q => by cases q⟩, Nat.le_trans h.le hgr.size, fun q => by cases q⟩
theorem Lr.set1 (h : Lr w wo W0 W d m rv zv kA kc K true) {v : Value} (hv : Blk W (w.heap.size + 6) 32 #[rv, zv, v, .slice none 0 0]) (u : Value) : Lr w wo W0 (W.setCell ⟨w.heap.size + 6, 2, none⟩ u) d m rv zv kA kc K true :=
  ⟨h.bx.set_ (Nat.le_refl _) 2 u, h.kl.set_ (.inl (by simp)) u, ⟨u, hv.set_ 2 u, fun q => by cases q⟩, by simpa using h.le, fun q => by cases q⟩
end
end Go.Proofs.YtlideagcmhlkeaaDoor

/- The end of an era, written at once. No walk. -/
namespace Go.Proofs.YtlideagcmhlkeaaDoor
open Go.RowKit Go.Lib
set_option linter.unusedVariables false

/-- the cells of the end of an era -/
def untC (yr dd asec ab : Int) : List Value := [.bool true, .int .i64 yr, .int .i64 12, .int .i64 1, .int .i64 0, .int .i64 dd, .int .i64 asec, .int .i64 ab]
section
variable {w wi W W' W0 : World} {d : D25} {n zb ec : Nat} {nm : ByteArray} {eA : Option Addr} {Es : List EV}
theorem El.unt2 {B p : Nat} (h : El w wi W d n zb nm (some ⟨B, 0, none⟩) ec Es) (hw : w.heap.size + 7 ≤ wi.heap.size) {x : EV} (hx : Es[p]? = some x) (yr dd asec ab : Int) :
    El w wi (W.setCells B (p * 13 + 5) (untC yr dd asec ab)) d n zb nm (some ⟨B, 0, none⟩) ec (Es.set p { x with ui := true, uy := yr, um := 12, dk := 1, dw := 0, dd := dd, asec := asec, ab := ab }) := by
  have q := h.unt hw hx yr dd asec ab
  simpa only [untC, World.setCells, Nat.add_assoc, Nat.reduceAdd] using q
theorem El.there {B p : Nat} (h : El w wi W d n zb nm (some ⟨B, 0, none⟩) ec Es) {x : EV} (hx : Es[p]? = some x) : W.there B (p * 13 + 5) 8 := fun j hj => by
  have hrow := h.row
  have hc : ∃ u, x.cells[5 + j]? = some u := by
    match j, hj with
    | 0, _ | 1, _ | 2, _ | 3, _ | 4, _ | 5, _ | 6, _ | 7, _ => exact ⟨_, rfl⟩
  obtain ⟨u, hu⟩ := hc
  have q := hrow.cellAt len_era hx (5 + j) u hu
  rw [← Nat.add_assoc] at q
  exact ⟨by rw [q]; rfl, hrow.frozenAt (p * 13 + 5 + j)⟩
end
end Go.Proofs.YtlideagcmhlkeaaDoor
