/- Texts of one proof, one behind the other: Mad25; Laid21. -/
import Derived.Test.YtlideagcmhlkeaaDoorT9
import Derived.BigRegion
import Derived.IntWalk
import Derived.Test.YtlideagcmhlkeaaDoorRows
import Derived.Lib.LaidTab
import Derived.Stop.LaidErr

/- The walk of Draft.Made of layer 25: the source that a draft makes, as a function of its numbers. DRAFT. -/
namespace Go.Proofs.YtlideagcmhlkeaaDoor
open Go.RowKit Go.Lib
set_option linter.unusedVariables false
set_option linter.unusedSimpArgs false

/-- where the loop over the sets stands; b: the rules are appended -/
structure Rl (w W : World) (d : D25) (rA : Option Addr) (rc : Nat) (R : List RV) (b : Bool) (W0 : World) : Prop where
  bx : Bx w W d 0
  own : ∃ v, Blk W (w.heap.size + 6) 32 #[v, .slice none 0 0, .slice none 0 0, .slice none 0 0] ∧ (b = false → v = .slice rA R.length rc)
  le : W0.heap.size ≤ W.heap.size
  ahead : b = false → RowOf W (w.heap.size + 7) 83 11 RV.cells rA rc R ∧ Below W0.heap.size W0 W
theorem Rl.or {w W W0 : World} {d : D25} {rA : Option Addr} {rc : Nat} {R : List RV} {b x : Bool} (h : Rl w W d rA rc R b W0) : Rl w W d rA rc R (b || x) W0 :=
  ⟨h.bx, by obtain ⟨v, h1, h2⟩ := h.own; exact ⟨v, h1, fun q => h2 (Bool.or_eq_false_iff.1 q).1⟩, h.le, fun q => h.ahead (Bool.or_eq_false_iff.1 q).1⟩
theorem Rl.below {w W W' W0 : World} {d : D25} {rA : Option Addr} {rc : Nat} {R : List RV} {b : Bool} (h : Rl w W d rA rc R b W0) (hb : Below W.heap.size W W') : Rl w W' d rA rc R b W0 :=
  ⟨h.bx.below hb, by obtain ⟨v, h1, h2⟩ := h.own; exact ⟨v, h1.below hb h1.lt, h2⟩, Nat.le_trans h.le hb.size, fun q => ⟨(h.ahead q).1.below hb, (h.ahead q).2.trans (hb.mono h.le)⟩⟩
theorem Rl.grown {w W W' W0 : World} {d : D25} {rA : Option Addr} {rc : Nat} {R : List RV} (h : Rl w W d rA rc R false W0) (hz : RowOf W (w.heap.size + 7) 83 11 RV.cells rA rc R) (hgr : W.grownBy W' (Value.slice rA R.length rc).ownBlock) : Rl w W' d rA rc R true W0 :=
  ⟨h.bx.grown hz hgr (by omega) (by decide) (by decide) (by decide) (by decide), by obtain ⟨v, h1, h2⟩ := h.own; exact ⟨v, blk_other h1 hz (by decide) hgr, fun q => by cases q⟩, Nat.le_trans h.le hgr.size, fun q => by cases q⟩
theorem Rl.set1 {w W W0 : World} {d : D25} {rA : Option Addr} {rc : Nat} {R : List RV} (h : Rl w W d rA rc R true W0) {v : Value} (hv : Blk W (w.heap.size + 6) 32 #[v, .slice none 0 0, .slice none 0 0, .slice none 0 0]) (u : Value) : Rl w (W.setCell ⟨w.heap.size + 6, 0, none⟩ u) d rA rc R true W0 :=
  ⟨h.bx.set_ (Nat.le_refl _) 0 u, ⟨u, hv.set_ 0 u, fun q => by cases q⟩, by simpa using h.le, fun q => by cases q⟩
theorem rules25_len (D : Nat → List Int) : ∀ n, (P25.rules D n).length ≤ 5 * n
  | 0 => by simp [P25.rules]
  | n + 1 => by
    have h1 := rules25_len D n
    have h2 := (P17.made_good (D n) (P25.sn n)).five
    rw [P25.rules_succ, List.length_append]
    omega
theorem sn_at (k : Nat) (h : k < 2) : (#[.string ⟨#[82]⟩, .string ⟨#[69, 117, 45, 120]⟩] : Array Value)[k]? = some (.string (P25.sn k)) := by
  match k, h with
  | 0, _ | 1, _ => rfl
theorem zn_at (k : Nat) (h : k < 3) : (#[.string ⟨#[65, 47, 66]⟩, .string ⟨#[67]⟩, .string ⟨#[68, 45, 101, 47, 70, 47, 71]⟩] : Array Value)[k]? = some (.string (P25.zn k)) := by
  match k, h with
  | 0, _ | 1, _ | 2, _ => rfl
theorem ln_at (k : Nat) (h : k < 3) : (#[.string ⟨#[88]⟩, .string ⟨#[65, 47, 89]⟩, .string ⟨#[90, 95, 49]⟩] : Array Value)[k]? = some (.string (P25.ln k)) := by
  match k, h with
  | 0, _ | 1, _ | 2, _ => rfl
theorem f4_at (k : Nat) (h : k < 4) : (#[.string ⟨#[76, 77, 84]⟩, .string ⟨#[71, 77, 84, 47, 66, 83, 84]⟩, .string ⟨#[67, 69, 37, 115, 84]⟩, .string ⟨#[37, 122]⟩] : Array Value)[k]? = some (.string (P25.f4 k)) := by
  match k, h with
  | 0, _ | 1, _ | 2, _ | 3, _ => rfl
theorem eras25_le (L : List Int) (D : Nat → List Int) (made n : Nat) : ∀ k, (P25.erasTo L D made n k).2 ≤ n + 6 * k
  | 0 => by show n ≤ n + 6 * 0; omega
  | k + 1 => by
    have q := eras25_le L D made n k
    show (P25.era L D made k (P25.erasTo L D made n k).2).2 ≤ _
    unfold P25.era
    split
    · show _ + 6 ≤ _; omega
    · split
      · show _ + 4 ≤ _; omega
      · show _ + 3 ≤ _; omega
section
variable {L : List Int} {D : Nat → List Int} {made k n A B C : Nat}
theorem era_base (hA : P25.g L (n + 1) 53 = A) (hB : P25.g L (n + 2) 4 = B) (hC : P25.g L (n + 3) 5 = C) (h0 : ¬ (0 < k ∧ 1 < C ∧ 0 < made)) (h1 : C ≠ 1) : P25.era L D made k n = (⟨((A : Int) - 26) * 1800, 0, 0, ⟨#[]⟩, P25.f4 B, false, 0, 0, 0, 0, 0, 0, 0⟩, n + 3) := by
  unfold P25.era P25.sort P25.baseE
  rw [hC, if_neg h0, if_neg h1, hA, hB]
  rfl
theorem era_fix {F : Nat} (hA : P25.g L (n + 1) 53 = A) (hB : P25.g L (n + 2) 4 = B) (hC : P25.g L (n + 3) 5 = C) (hF : P25.g L (n + 4) 4 = F) (h0 : ¬ (0 < k ∧ 1 < C ∧ 0 < made)) (h1 : C = 1) : P25.era L D made k n = (⟨((A : Int) - 26) * 1800, 1, (1 + (F : Int)) * 1800, ⟨#[]⟩, P25.f4 B, false, 0, 0, 0, 0, 0, 0, 0⟩, n + 4) := by
  unfold P25.era P25.sort P25.fixE P25.baseE
  rw [hC, if_neg h0, if_pos h1, hA, hB, hF]
  rfl
theorem era_set {S O K : Nat} (hC : P25.g L (n + 3) 5 = C) (hS : P25.g L (n + 4) made = S) (hO : P25.g L (n + 5) 49 = O) (hK : P25.g L (n + 6) 4 = K) (h0 : 0 < k ∧ 1 < C ∧ 0 < made) : P25.era L D made k n = (⟨offOf (O : Int), 2, 0, P25.sn S, fmt21 ((K : Int).tmod 5) (O : Int) (P17.made (D S) (P25.sn S)), false, 0, 0, 0, 0, 0, 0, 0⟩, n + 6) := by
  unfold P25.era P25.sort P25.setE
  rw [hC, if_pos h0, hS, hO, hK]
  rfl
end
theorem unt25_le (L : List Int) (E : List EV) (n : Nat) (y : Int) : ∀ k, (P25.untTo L E n y k).2.1 = n + 4 * k
  | 0 => by show n = n + 4 * 0; omega
  | k + 1 => by
    have q := unt25_le L E n y k
    show (P25.untTo L E n y k).2.1 + 4 = _
    omega
theorem unt25_len (L : List Int) (E : List EV) (n : Nat) (y : Int) : ∀ k, (P25.untTo L E n y k).1.length = E.length
  | 0 => rfl
  | k + 1 => by
    show ((P25.untTo L E n y k).1.modify k _).length = _
    rw [List.length_modify, unt25_len L E n y k]
theorem unt25_year (L : List Int) (E : List EV) (n : Nat) (y : Int) : ∀ k : Nat, y ≤ (P25.untTo L E n y k).2.2 ∧ (P25.untTo L E n y k).2.2 ≤ y + 40 * (k : Int)
  | 0 => by show y ≤ y ∧ y ≤ y + 40 * ((0 : Nat) : Int); omega
  | k + 1 => by
    have q := unt25_year L E n y k
    have h := P25.g_lt L ((P25.untTo L E n y k).2.1 + 1) (m := 40) (by decide)
    show y ≤ (P25.untTo L E n y k).2.2 + (1 + (P25.g L ((P25.untTo L E n y k).2.1 + 1) 40 : Int)) ∧ _ ≤ _
    constructor
    · omega
    · show (P25.untTo L E n y k).2.2 + (1 + (P25.g L ((P25.untTo L E n y k).2.1 + 1) 40 : Int)) ≤ _
      omega
theorem modify_set {α : Type} {L : List α} {k : Nat} {x : α} (h : L[k]? = some x) (f : α → α) : L.modify k f = L.set k (f x) := List.ext_getElem? fun i => by
  rw [List.getElem?_modify, List.getElem?_set]
  by_cases hi : k = i
  · subst hi
    rw [h, if_pos rfl, if_pos (List.getElem?_eq_some_iff.1 h).1]
    show some (if k = k then f x else x) = _
    rw [if_pos rfl]
  · rw [if_neg hi]
    cases L[i]? with
    | none => rfl
    | some y =>
      show some (if k = i then f y else y) = some y
      rw [if_neg hi]
theorem unt_step {L : List Int} {E E2 : List EV} {n m2 p F1 F2 F3 F4 : Nat} {y Y2 : Int} {x : EV} (h : P25.untTo L E n y p = (E2, m2, Y2)) (hx : E2[p]? = some x) (h1 : P25.g L (m2 + 1) 40 = F1) (h2 : P25.g L (m2 + 1 + 1) 20 = F2) (h3 : P25.g L (m2 + 1 + 1 + 1) 49 = F3) (h4 : P25.g L (m2 + 1 + 1 + 1 + 1) 3 = F4) :
    P25.untTo L E n y (p + 1) = (E2.set p { x with ui := true, uy := Y2 + (1 + (F1 : Int)), um := 12, dk := 1, dw := 0, dd := 5 + (F2 : Int), asec := (F3 : Int) * 1800, ab := (F4 : Int) }, m2 + 4, Y2 + (1 + (F1 : Int))) := by
  show ((P25.untTo L E n y p).1.modify p (P25.untE L ((P25.untTo L E n y p).2.2 + (1 + (P25.g L ((P25.untTo L E n y p).2.1 + 1) 40 : Int))) (P25.untTo L E n y p).2.1), (P25.untTo L E n y p).2.1 + 4, (P25.untTo L E n y p).2.2 + (1 + (P25.g L ((P25.untTo L E n y p).2.1 + 1) 40 : Int))) = _
  rw [h]
  show (E2.modify p (P25.untE L (Y2 + (1 + (P25.g L (m2 + 1) 40 : Int))) m2), m2 + 4, Y2 + (1 + (P25.g L (m2 + 1) 40 : Int))) = _
  rw [modify_set hx, h1]
  unfold P25.untE
  rw [h2, h3, h4]
theorem zone25_le (L : List Int) (D : Nat → List Int) (made n : Nat) : (P25.zone L D made n).2 ≤ n + 38 := by
  have h := P25.g_lt L (n + 2) (m := 4) (by decide)
  have q := eras25_le L D made (n + 2) (P25.cnt L n)
  show (P25.untTo L _ _ _ (P25.cnt L n - 1)).2.1 ≤ _
  rw [unt25_le]
  unfold P25.cnt at *
  omega
theorem zones25_le (L : List Int) (D : Nat → List Int) (made : Nat) : ∀ i, (P25.zonesTo L D made i).2 ≤ 38 * i
  | 0 => by show 0 ≤ _; omega
  | i + 1 => by
    have q := zones25_le L D made i
    have h := zone25_le L D made (P25.zonesTo L D made i).2
    show (P25.zone L D made (P25.zonesTo L D made i).2).2 ≤ _
    omega
set_option maxRecDepth 100000 in
set_option maxHeartbeats 16000000 in
theorem made25_any (d : D25) (w : World) (hd : D25In w d) : Calls Tryd.prog 38 #[.agg #[.slice d.sA d.sets.length d.sc, .int .u8 d.zs, .int .u8 d.ls, .slice d.lA d.nums.length d.lc]] w fun x w' => ∃ t : SV, x = .returned (.agg #[.slice t.rA t.rules.length t.rc, .slice t.zA t.zones.length t.zc, .slice t.kA t.links.length t.kc, .slice t.hA t.shifts.length t.hc]) ∧ SrcG w' t ∧ Is25 d t ∧ Below w.heap.size w w' := by
  have hl := hd.lens
  unfold maxLen at hl
  have i1 : (d.sets.length : Int) ≤ 9223372036854775807 := by omega
  obtain ⟨MD, hMD, hMD2⟩ : ∃ M : Nat, min (d.sets.length : Int) 2 = (M : Int) ∧ M = d.made := ⟨d.made, by unfold D25.made; omega, rfl⟩
  have HMD := Lib.hid hMD2
  have hm2 : (MD : Int) ≤ 2 := by omega
  obtain ⟨ZN, hZN, hZN2⟩ : ∃ Z : Nat, d.zs.tmod 4 = (Z : Int) ∧ Z = d.zn := ⟨d.zn, by rw [Int.tmod_eq_emod_of_nonneg hd.zs.1]; unfold D25.zn; omega, rfl⟩
  obtain ⟨LN, hLN, hLN2⟩ : ∃ Z : Nat, d.ls.tmod 4 = (Z : Int) ∧ Z = d.ln := ⟨d.ln, by rw [Int.tmod_eq_emod_of_nonneg hd.ls.1]; unfold D25.ln; omega, rfl⟩
  have hz3 : (ZN : Int) ≤ 3 := by rw [← hZN, Int.tmod_eq_emod_of_nonneg hd.zs.1]; omega
  have hl3 : (LN : Int) ≤ 3 := by rw [← hLN, Int.tmod_eq_emod_of_nonneg hd.ls.1]; omega
  have HZN := Lib.hid hZN2; have HLN := Lib.hid hLN2; have HZM := Lib.hid hZN; have HLM := Lib.hid hLN
  have HD := Lib.hid hd
  have HM3 := Lib.hid (show MD ≤ d.sets.length ∧ MD ≤ 2 by omega)
  have hb1 := (Below.refl w.heap.size w).alloc (Nat.le_refl _) (.cells #[.slice d.sA d.sets.length d.sc, .int .u8 d.zs, .int .u8 d.ls, .slice d.lA d.nums.length d.lc] 79)
  have hb2 := hb1.alloc hb1.size (.cells #[.slice none 0 0, .slice none 0 0, .slice none 0 0, .slice none 0 0] 32)
  have hb3 := hb2.alloc hb2.size (.cells #[.int .i64 0] 3)
  have hb4 := hb3.alloc hb3.size (.cells #[.string ⟨#[82]⟩, .string ⟨#[69, 117, 45, 120]⟩] 9)
  have hb5 := hb4.alloc hb4.size (.cells #[.string ⟨#[65, 47, 66]⟩, .string ⟨#[67]⟩, .string ⟨#[68, 45, 101, 47, 70, 47, 71]⟩] 9)
  have hb6 := hb5.alloc hb5.size (.cells #[.string ⟨#[88]⟩, .string ⟨#[65, 47, 89]⟩, .string ⟨#[90, 95, 49]⟩] 9)
  have hb7 := hb6.alloc hb6.size (.cells #[.slice none 0 0, .slice none 0 0, .slice none 0 0, .slice none 0 0] 32)
  have HR0 := Lib.hid (show Rl w (((((((w.alloc (.cells #[.slice d.sA d.sets.length d.sc, .int .u8 d.zs, .int .u8 d.ls, .slice d.lA d.nums.length d.lc] 79)).alloc (.cells #[.slice none 0 0, .slice none 0 0, .slice none 0 0, .slice none 0 0] 32)).alloc (.cells #[.int .i64 0] 3)).alloc (.cells #[.string ⟨#[82]⟩, .string ⟨#[69, 117, 45, 120]⟩] 9)).alloc (.cells #[.string ⟨#[65, 47, 66]⟩, .string ⟨#[67]⟩, .string ⟨#[68, 45, 101, 47, 70, 47, 71]⟩] 9)).alloc (.cells #[.string ⟨#[88]⟩, .string ⟨#[65, 47, 89]⟩, .string ⟨#[90, 95, 49]⟩] 9)).alloc (.cells #[.slice none 0 0, .slice none 0 0, .slice none 0 0, .slice none 0 0] 32)) d none 0 (P25.rules d.dr 0) false (((((((w.alloc (.cells #[.slice d.sA d.sets.length d.sc, .int .u8 d.zs, .int .u8 d.ls, .slice d.lA d.nums.length d.lc] 79)).alloc (.cells #[.slice none 0 0, .slice none 0 0, .slice none 0 0, .slice none 0 0] 32)).alloc (.cells #[.int .i64 0] 3)).alloc (.cells #[.string ⟨#[82]⟩, .string ⟨#[69, 117, 45, 120]⟩] 9)).alloc (.cells #[.string ⟨#[65, 47, 66]⟩, .string ⟨#[67]⟩, .string ⟨#[68, 45, 101, 47, 70, 47, 71]⟩] 9)).alloc (.cells #[.string ⟨#[88]⟩, .string ⟨#[65, 47, 89]⟩, .string ⟨#[90, 95, 49]⟩] 9)).alloc (.cells #[.slice none 0 0, .slice none 0 0, .slice none 0 0, .slice none 0 0] 32)) from ⟨⟨(((((((Blk.new w 79 #[.slice d.sA d.sets.length d.sc, .int .u8 d.zs, .int .u8 d.ls, .slice d.lA d.nums.length d.lc]).alloc (.cells #[.slice none 0 0, .slice none 0 0, .slice none 0 0, .slice none 0 0] 32)).alloc (.cells #[.int .i64 0] 3)).alloc (.cells #[.string ⟨#[82]⟩, .string ⟨#[69, 117, 45, 120]⟩] 9)).alloc (.cells #[.string ⟨#[65, 47, 66]⟩, .string ⟨#[67]⟩, .string ⟨#[68, 45, 101, 47, 70, 47, 71]⟩] 9)).alloc (.cells #[.string ⟨#[88]⟩, .string ⟨#[65, 47, 89]⟩, .string ⟨#[90, 95, 49]⟩] 9)).alloc (.cells #[.slice none 0 0, .slice none 0 0, .slice none 0 0, .slice none 0 0] 32)), ((((((Blk.newAt (w.alloc (.cells #[.slice d.sA d.sets.length d.sc, .int .u8 d.zs, .int .u8 d.ls, .slice d.lA d.nums.length d.lc] 79)) (w.heap.size + 1) (by simp) 32 #[.slice none 0 0, .slice none 0 0, .slice none 0 0, .slice none 0 0]).alloc (.cells #[.int .i64 0] 3)).alloc (.cells #[.string ⟨#[82]⟩, .string ⟨#[69, 117, 45, 120]⟩] 9)).alloc (.cells #[.string ⟨#[65, 47, 66]⟩, .string ⟨#[67]⟩, .string ⟨#[68, 45, 101, 47, 70, 47, 71]⟩] 9)).alloc (.cells #[.string ⟨#[88]⟩, .string ⟨#[65, 47, 89]⟩, .string ⟨#[90, 95, 49]⟩] 9)).alloc (.cells #[.slice none 0 0, .slice none 0 0, .slice none 0 0, .slice none 0 0] 32)), (((((Blk.newAt ((w.alloc (.cells #[.slice d.sA d.sets.length d.sc, .int .u8 d.zs, .int .u8 d.ls, .slice d.lA d.nums.length d.lc] 79)).alloc (.cells #[.slice none 0 0, .slice none 0 0, .slice none 0 0, .slice none 0 0] 32)) (w.heap.size + 2) (by simp) 3 #[.int .i64 0]).alloc (.cells #[.string ⟨#[82]⟩, .string ⟨#[69, 117, 45, 120]⟩] 9)).alloc (.cells #[.string ⟨#[65, 47, 66]⟩, .string ⟨#[67]⟩, .string ⟨#[68, 45, 101, 47, 70, 47, 71]⟩] 9)).alloc (.cells #[.string ⟨#[88]⟩, .string ⟨#[65, 47, 89]⟩, .string ⟨#[90, 95, 49]⟩] 9)).alloc (.cells #[.slice none 0 0, .slice none 0 0, .slice none 0 0, .slice none 0 0] 32)), ((((Blk.newAt (((w.alloc (.cells #[.slice d.sA d.sets.length d.sc, .int .u8 d.zs, .int .u8 d.ls, .slice d.lA d.nums.length d.lc] 79)).alloc (.cells #[.slice none 0 0, .slice none 0 0, .slice none 0 0, .slice none 0 0] 32)).alloc (.cells #[.int .i64 0] 3)) (w.heap.size + 3) (by simp) 9 #[.string ⟨#[82]⟩, .string ⟨#[69, 117, 45, 120]⟩]).alloc (.cells #[.string ⟨#[65, 47, 66]⟩, .string ⟨#[67]⟩, .string ⟨#[68, 45, 101, 47, 70, 47, 71]⟩] 9)).alloc (.cells #[.string ⟨#[88]⟩, .string ⟨#[65, 47, 89]⟩, .string ⟨#[90, 95, 49]⟩] 9)).alloc (.cells #[.slice none 0 0, .slice none 0 0, .slice none 0 0, .slice none 0 0] 32)), (((Blk.newAt ((((w.alloc (.cells #[.slice d.sA d.sets.length d.sc, .int .u8 d.zs, .int .u8 d.ls, .slice d.lA d.nums.length d.lc] 79)).alloc (.cells #[.slice none 0 0, .slice none 0 0, .slice none 0 0, .slice none 0 0] 32)).alloc (.cells #[.int .i64 0] 3)).alloc (.cells #[.string ⟨#[82]⟩, .string ⟨#[69, 117, 45, 120]⟩] 9)) (w.heap.size + 4) (by simp) 9 #[.string ⟨#[65, 47, 66]⟩, .string ⟨#[67]⟩, .string ⟨#[68, 45, 101, 47, 70, 47, 71]⟩]).alloc (.cells #[.string ⟨#[88]⟩, .string ⟨#[65, 47, 89]⟩, .string ⟨#[90, 95, 49]⟩] 9)).alloc (.cells #[.slice none 0 0, .slice none 0 0, .slice none 0 0, .slice none 0 0] 32)), ((Blk.newAt (((((w.alloc (.cells #[.slice d.sA d.sets.length d.sc, .int .u8 d.zs, .int .u8 d.ls, .slice d.lA d.nums.length d.lc] 79)).alloc (.cells #[.slice none 0 0, .slice none 0 0, .slice none 0 0, .slice none 0 0] 32)).alloc (.cells #[.int .i64 0] 3)).alloc (.cells #[.string ⟨#[82]⟩, .string ⟨#[69, 117, 45, 120]⟩] 9)).alloc (.cells #[.string ⟨#[65, 47, 66]⟩, .string ⟨#[67]⟩, .string ⟨#[68, 45, 101, 47, 70, 47, 71]⟩] 9)) (w.heap.size + 5) (by simp) 9 #[.string ⟨#[88]⟩, .string ⟨#[65, 47, 89]⟩, .string ⟨#[90, 95, 49]⟩]).alloc (.cells #[.slice none 0 0, .slice none 0 0, .slice none 0 0, .slice none 0 0] 32)), hb7⟩, ⟨_, (Blk.newAt ((((((w.alloc (.cells #[.slice d.sA d.sets.length d.sc, .int .u8 d.zs, .int .u8 d.ls, .slice d.lA d.nums.length d.lc] 79)).alloc (.cells #[.slice none 0 0, .slice none 0 0, .slice none 0 0, .slice none 0 0] 32)).alloc (.cells #[.int .i64 0] 3)).alloc (.cells #[.string ⟨#[82]⟩, .string ⟨#[69, 117, 45, 120]⟩] 9)).alloc (.cells #[.string ⟨#[65, 47, 66]⟩, .string ⟨#[67]⟩, .string ⟨#[68, 45, 101, 47, 70, 47, 71]⟩] 9)).alloc (.cells #[.string ⟨#[88]⟩, .string ⟨#[65, 47, 89]⟩, .string ⟨#[90, 95, 49]⟩] 9)) (w.heap.size + 6) (by simp) 32 #[.slice none 0 0, .slice none 0 0, .slice none 0 0, .slice none 0 0]), fun _ => by simp [P25.rules]⟩, Nat.le_refl _, fun _ => ⟨World.ownsRow_nil .., Below.refl _ _⟩⟩)
  have HSZ0 := Lib.hid (show w.heap.size + 7 ≤ (((((((w.alloc (.cells #[.slice d.sA d.sets.length d.sc, .int .u8 d.zs, .int .u8 d.ls, .slice d.lA d.nums.length d.lc] 79)).alloc (.cells #[.slice none 0 0, .slice none 0 0, .slice none 0 0, .slice none 0 0] 32)).alloc (.cells #[.int .i64 0] 3)).alloc (.cells #[.string ⟨#[82]⟩, .string ⟨#[69, 117, 45, 120]⟩] 9)).alloc (.cells #[.string ⟨#[65, 47, 66]⟩, .string ⟨#[67]⟩, .string ⟨#[68, 45, 101, 47, 70, 47, 71]⟩] 9)).alloc (.cells #[.string ⟨#[88]⟩, .string ⟨#[65, 47, 89]⟩, .string ⟨#[90, 95, 49]⟩] 9)).alloc (.cells #[.slice none 0 0, .slice none 0 0, .slice none 0 0, .slice none 0 0] 32)).heap.size by simp)
  have c0 := ((((((((Blk.new w 79 #[.slice d.sA d.sets.length d.sc, .int .u8 d.zs, .int .u8 d.ls, .slice d.lA d.nums.length d.lc]).alloc (.cells #[.slice none 0 0, .slice none 0 0, .slice none 0 0, .slice none 0 0] 32)).alloc (.cells #[.int .i64 0] 3)).alloc (.cells #[.string ⟨#[82]⟩, .string ⟨#[69, 117, 45, 120]⟩] 9)).alloc (.cells #[.string ⟨#[65, 47, 66]⟩, .string ⟨#[67]⟩, .string ⟨#[68, 45, 101, 47, 70, 47, 71]⟩] 9)).alloc (.cells #[.string ⟨#[88]⟩, .string ⟨#[65, 47, 89]⟩, .string ⟨#[90, 95, 49]⟩] 9)).alloc (.cells #[.slice none 0 0, .slice none 0 0, .slice none 0 0, .slice none 0 0] 32)).cell 0).trans rfl
  clear hb1 hb2 hb3 hb4 hb5 hb6 hb7 hd hl hMD2 hZN hZN2 hLN hLN2
  go_enter Tryd.func38, Tryd.ntmps38
  go_wp2_with (go_at_call 69; refine (names25_any _).mono ?_; rintro e wn ⟨rfl, rfl⟩)
  clear hMD c0
  simp only [Nat.add_assoc, Nat.reduceAdd]
  go_loopw [10, 32] (fun s10 i W => ∃ k : Nat, k ≤ MD ∧ i = .int .i64 k ∧ ∃ rA rc, Rl w W d rA rc (P25.rules d.dr k) false W ∧ w.heap.size + 7 ≤ W.heap.size) (fun _ i _ => MD - (intOf i).toNat)
  case atStart => exact ⟨0, Nat.zero_le _, rfl, none, 0, HR0.out, HSZ0.out⟩
  case round =>
    clear HR0 HSZ0
    obtain ⟨k, hk, rfl, rA, rc, hem, hgl⟩ := hrel
    by_cases hlt : k < MD
    · have hki : (k : Int) < (MD : Int) := by omega
      have hk0 : (0 : Int) ≤ (k : Int) := by omega
      have hk2 : k < 2 := by omega
      have hki2 : (k : Int) < 2 := by omega
      have HLT := Lib.hid hlt; have HGL := Lib.hid hgl
      have HRL : Hid ((P25.rules d.dr k).length ≤ 10) := Lib.hid (by have := rules25_len d.dr k; omega)
      have HZ0 : Hid (∀ K, (Value.slice rA (P25.rules d.dr k).length rc).ownBlock = some K → K < wr.heap.size) := Lib.hid fun K hK => (World.ownsRow.lt (hem.ahead rfl).1 K hK).2
      have HEM := Lib.hid hem
      have hset : k < d.sets.length := by have := HM3.out; omega
      have hsi : (k : Int) < (d.sets.length : Int) := by omega
      obtain ⟨s, hs⟩ : ∃ s, d.sets[k]? = some s := ⟨_, List.getElem?_eq_getElem hset⟩
      obtain ⟨gs, os, hA, hgs, hcs⟩ := HD.out.sets k s hs
      have HDR0 := Lib.hid (HD.out.draws s (List.mem_of_getElem? hs))
      have HDRK := Lib.hid (show d.dr k = s.2.2 by unfold D25.dr; rw [hs]; rfl)
      obtain ⟨dA, dc, DL⟩ := s
      have HDR := HDR0
      have HXW := Lib.hid (show w.cell? ⟨gs, os + k, none⟩ = some (.slice dA DL.length dc) by have q := hcs 0 _ rfl; simpa using q)
      have HGS := Lib.hid hgs
      have HTWO := Lib.hid (P17.made_good DL (P25.sn k)).two; have HFIVE := Lib.hid (P17.made_good DL (P25.sn k)).five
      rw [hA]
      have HA := Lib.hid hA
      clear hs hA hgs hcs hset hem hgl hlt
      go_upto_region 9 with fail
      have hS0 := HEM.out
      refine wp_region_shapeB [(some 35, []), (some 36, [0]), (some 37, []), (some 38, [2]), (some 39, []), (some 40, [3, 4]), (some 41, [5]), (some 42, []), (some 43, []), (some 44, [7, 8]), (some 45, [9]), (some 46, [6, 10]), (some 47, [1, 11, 11]), (some 48, [0, 1, 2, 3, 4, 5, 6, 7, 8, 9, 10, 11, 12]), (none, [13, 12, 12, 0, 1, 2, 3, 4, 5, 6, 7, 8, 9, 10, 11, 12])] (fun y => { tmps := #[.agg #[.slice (some ⟨gs, os, none⟩) d.sets.length d.sc, .int .u8 d.zs, .int .u8 d.ls, .slice d.lA d.nums.length d.lc], .pointer (some ⟨w.heap.size, 0, none⟩), .pointer (some ⟨w.heap.size + 1, 0, none⟩), .pointer (some ⟨w.heap.size + 2, 0, none⟩), .func (.func 68) #[] #[.pointer (some ⟨w.heap.size + 2, 0, none⟩), .pointer (some ⟨w.heap.size, 0, none⟩)], .slice (some ⟨w.heap.size + 3, 0, none⟩) 2 2, .slice (some ⟨w.heap.size + 4, 0, none⟩) 3 3, .slice (some ⟨w.heap.size + 5, 0, none⟩) 3 3, .pointer (some ⟨w.heap.size + 6, 0, none⟩), .int .i64 MD, .int .i64 k, undef, undef, undef, undef, undef, undef, undef, undef, undef, undef, .func (.func 68) #[] #[.pointer (some ⟨w.heap.size + 2, 0, none⟩), .pointer (some ⟨w.heap.size, 0, none⟩)], .tuple #[.slice (some ⟨w.heap.size + 3, 0, none⟩) 2 2, .slice (some ⟨w.heap.size + 4, 0, none⟩) 3 3, .slice (some ⟨w.heap.size + 5, 0, none⟩) 3 3], .tuple #[.slice (some ⟨w.heap.size + 3, 0, none⟩) 2 2, .slice (some ⟨w.heap.size + 4, 0, none⟩) 3 3, .slice (some ⟨w.heap.size + 5, 0, none⟩) 3 3], .slice (some ⟨w.heap.size + 3, 0, none⟩) 2 2, .slice (some ⟨w.heap.size + 4, 0, none⟩) 3 3, .slice (some ⟨w.heap.size + 5, 0, none⟩) 3 3, .pointer (some ⟨w.heap.size, 0, none⟩), .slice (some ⟨gs, os, none⟩) d.sets.length d.sc, .int .i64 d.sets.length, .int .i64 MD, .int .i64 MD, .int .i64 k, .bool true, .int .i64 k, y 35, y 36, y 37, y 38, y 39, y 40, y 41, y 42, y 43, y 44, y 45, y 46, y 47, y 48, u49, undef, undef, undef, undef, undef, undef, undef, undef, undef, undef, undef, undef, undef, undef, undef, undef, undef, undef, undef, undef, undef, undef, undef, undef, undef, undef, undef, undef, undef, undef, undef, undef, undef, undef, undef, undef, undef, undef, undef, undef, undef, undef, undef, undef, undef, undef, undef, undef, undef, undef, undef, undef, undef, undef, undef, undef, undef, undef, undef, undef, undef, undef, undef, undef, undef, undef, undef, undef, undef, undef, undef, undef, undef, undef, undef, undef, undef, undef, undef, undef, undef, undef, undef, undef, undef, undef, undef, undef, undef, undef, undef, undef, undef, undef, undef, undef, undef, undef, undef, undef, undef, undef, undef, undef, undef, undef, undef, undef, undef, undef, undef, undef, undef, undef, undef, undef, undef, undef, undef, undef, undef, undef, undef, undef, undef, undef, undef, undef, undef, undef, undef, undef, undef, undef, undef, undef, undef, undef, undef, undef, undef, undef, undef, undef, undef, undef, undef, undef, undef, undef, undef, undef, undef, undef, undef, undef, undef, undef, undef, undef, undef, undef, undef, undef, undef, undef, undef, undef, undef, undef], defers := [] }) (fun k => match k with | 35 => u35 | 36 => u36 | 37 => u37 | 38 => u38 | 39 => u39 | 40 => u40 | 41 => u41 | 42 => u42 | 43 => u43 | 44 => u44 | 45 => u45 | 46 => u46 | 47 => u47 | 48 => u48 | _ => undef) (fun j => j == 11 || j == 12 || j == 14) [.pointer (some ⟨w.heap.size + 6, 0, none⟩), .slice rA (P25.rules d.dr k).length rc, .pointer (some ⟨w.heap.size, 0, none⟩), .slice (some ⟨gs, os, none⟩) d.sets.length d.sc, .int .i64 k, .pointer (some ⟨gs, os + k, none⟩), .slice dA DL.length dc, .slice (some ⟨w.heap.size + 3, 0, none⟩) 2 2, .int .i64 k, .pointer (some ⟨w.heap.size + 3, k, none⟩), .string (P25.sn k), undef, undef, .pointer (some ⟨w.heap.size + 6, 0, none⟩), undef] (fun j y W => match j with | 11 => ∃ mA mc, y 46 = .slice mA (P17.made DL (P25.sn k)).length mc ∧ RowOf W wr.heap.size 83 11 RV.cells mA mc (P17.made DL (P25.sn k)) | 12 => ∃ rA' rc', y 47 = .slice rA' ((P25.rules d.dr k).length + (P17.made DL (P25.sn k)).length) rc' ∧ RowOf W (w.heap.size + 7) 83 11 RV.cells rA' rc' (P25.rules d.dr k ++ P17.made DL (P25.sn k)) | 14 => ∃ rA' rc', RowOf W (w.heap.size + 7) 83 11 RV.cells rA' rc' (P25.rules d.dr k ++ P17.made DL (P25.sn k)) ∧ Blk W (w.heap.size + 6) 32 #[.slice rA' ((P25.rules d.dr k).length + (P17.made DL (P25.sn k)).length) rc', .slice none 0 0, .slice none 0 0, .slice none 0 0] | _ => True) (fun j => match j with | 11 => [46] | 12 => [47] | 14 => [] | _ => []) 12 (fun b => GB 32 83 wr.heap.size b) (fun b W => Rl w W d rA rc (P25.rules d.dr k) b wr) (by kernel_rfl) (by kernel_rfl) (by decide +kernel) rfl (hS0.below (Below.refl _ _).drew) ?hput5 ?hloc5 ?hmono5 ?hstep5 ?hdone5
      case hput5 =>
        intro d hd y v
        simp only [List.filterMap_cons, List.filterMap_nil, List.mem_cons, List.not_mem_nil, or_false] at hd
        rcases hd with rfl | rfl | rfl | rfl | rfl | rfl | rfl | rfl | rfl | rfl | rfl | rfl | rfl | rfl
        all_goals rfl
      case hloc5 =>
        intro j hj y y' W hk hx
        have hj' : j = 11 ∨ j = 12 ∨ j = 14 := by simpa [or_assoc] using hj
        rcases hj' with rfl | rfl | rfl
        · simp only [List.forall_mem_cons, List.not_mem_nil, false_imp_iff, implies_true, and_true] at hk
          show _
          simpa only [hk] using hx
        · simp only [List.forall_mem_cons, List.not_mem_nil, false_imp_iff, implies_true, and_true] at hk
          show _
          simpa only [hk] using hx
        · skip
          exact hx
      case hmono5 =>
        intro j hj hlast b hbq y W W' hg hx
        have hj' : j = 11 ∨ j = 12 ∨ j = 14 := by simpa [or_assoc] using hj
        rcases hj' with rfl | rfl | rfl
        · obtain ⟨mA, mc, h1, h2⟩ := hx; exact ⟨mA, mc, h1, hg.rowA (by decide) (.inr (.inl (Nat.le_refl _))) h2⟩
        · obtain ⟨rA', rc', h1, h2⟩ := hx; have hb1 := hbq rfl; subst hb1; exact ⟨rA', rc', h1, hg.rowA (by decide) (.inr (.inr rfl)) h2⟩
        · exact absurd hlast (by decide)
      case hdone5 =>
        intro y5 W5 hS hd
        have x14 : (fun (y : Nat → Value) (W : World) => ∃ rA' rc', RowOf W (w.heap.size + 7) 83 11 RV.cells rA' rc' (P25.rules d.dr k ++ P17.made DL (P25.sn k)) ∧ Blk W (w.heap.size + 6) 32 #[.slice rA' ((P25.rules d.dr k).length + (P17.made DL (P25.sn k)).length) rc', .slice none 0 0, .slice none 0 0, .slice none 0 0]) y5 W5 := (hd 14 (by decide)).ex rfl
        obtain ⟨rA', rc', h1, h2⟩ := x14
        have HE7 := Lib.hid (show Rl w W5 d rA' rc' (P25.rules d.dr (k + 1)) false W5 from by
          rw [P25.rules_succ, HDRK.out]
          exact ⟨hS.bx, ⟨_, by rw [List.length_append]; exact h2, fun _ => rfl⟩, Nat.le_refl _, fun _ => ⟨h1, Below.refl _ _⟩⟩)
        have HGL7 := Lib.hid (Nat.le_trans HGL.out hS.le)
        clear hd hS h1 h2
        go_wp2_with fail
        go_roundw
        case rel => exact ⟨k + 1, by have := HLT.out; omega, by go_num, ⟨rA', rc', HE7.out⟩, HGL7.out⟩
        case measure => have := HLT.out; simp [intOf]; omega
      case hstep5 =>
        refine StepsOkB.cons (StepOkB.known rfl fun y W b hbq hS hd K' hK => ?_) ?_
        · skip
          clear hd
          go_simp
          exact hK.out _ _ rfl (GB.refl _ _ _ _ _) hS.or
        refine StepsOkB.cons (StepOkB.known rfl fun y W b hbq hS hd K' hK => ?_) ?_
        · skip
          have e35 : y 35 = .pointer (some ⟨w.heap.size + 6, 0, none⟩) := (hd 0 rfl).val rfl rfl
          clear hd
          have hb1 := hbq.1 (.inr rfl)
          subst hb1
          obtain ⟨v, hv, hv2⟩ := hS.own
          obtain rfl := hv2 rfl
          have hc := (hv.cell 0).trans rfl
          go_simp
          exact hK.out _ _ (by first | rfl | (simp only [e35]; done) | (simp only [e35]; rfl)) (GB.refl _ _ _ _ _) hS.or
        refine StepsOkB.cons (StepOkB.known rfl fun y W b hbq hS hd K' hK => ?_) ?_
        · skip
          clear hd
          go_simp
          exact hK.out _ _ rfl (GB.refl _ _ _ _ _) hS.or
        refine StepsOkB.cons (StepOkB.known rfl fun y W b hbq hS hd K' hK => ?_) ?_
        · skip
          have e37 : y 37 = .pointer (some ⟨w.heap.size, 0, none⟩) := (hd 2 rfl).val rfl rfl
          clear hd
          have hc := (hS.bx.dx.cell 0).trans rfl
          have hA := HA.out
          go_simp
          exact hK.out _ _ (by first | rfl | (simp only [e37]; done) | (simp only [e37]; rfl)) (GB.refl _ _ _ _ _) hS.or
        refine StepsOkB.cons (StepOkB.known rfl fun y W b hbq hS hd K' hK => ?_) ?_
        · skip
          clear hd
          go_simp
          exact hK.out _ _ rfl (GB.refl _ _ _ _ _) hS.or
        refine StepsOkB.cons (StepOkB.known rfl fun y W b hbq hS hd K' hK => ?_) ?_
        · skip
          have e38 : y 38 = .slice (some ⟨gs, os, none⟩) d.sets.length d.sc := (hd 3 rfl).val rfl rfl
          have e39 : y 39 = .int .i64 k := (hd 4 rfl).val rfl rfl
          clear hd
          go_simp
          exact hK.out _ _ (by first | rfl | (simp only [e38, e39]; done) | (simp only [e38, e39]; rfl)) (GB.refl _ _ _ _ _) hS.or
        refine StepsOkB.cons (StepOkB.known rfl fun y W b hbq hS hd K' hK => ?_) ?_
        · skip
          have e40 : y 40 = .pointer (some ⟨gs, os + k, none⟩) := (hd 5 rfl).val rfl rfl
          clear hd
          have hc : W.cell? ⟨gs, os + k, none⟩ = some (.slice dA DL.length dc) := (hS.bx.bel.cell (p := ⟨gs, os + k, none⟩) HGS.out).trans HXW.out
          go_simp
          exact hK.out _ _ (by first | rfl | (simp only [e40]; done) | (simp only [e40]; rfl)) (GB.refl _ _ _ _ _) hS.or
        refine StepsOkB.cons (StepOkB.known rfl fun y W b hbq hS hd K' hK => ?_) ?_
        · skip
          clear hd
          go_simp
          exact hK.out _ _ rfl (GB.refl _ _ _ _ _) hS.or
        refine StepsOkB.cons (StepOkB.known rfl fun y W b hbq hS hd K' hK => ?_) ?_
        · skip
          clear hd
          go_simp
          exact hK.out _ _ rfl (GB.refl _ _ _ _ _) hS.or
        refine StepsOkB.cons (StepOkB.known rfl fun y W b hbq hS hd K' hK => ?_) ?_
        · skip
          have e42 : y 42 = .slice (some ⟨w.heap.size + 3, 0, none⟩) 2 2 := (hd 7 rfl).val rfl rfl
          have e43 : y 43 = .int .i64 k := (hd 8 rfl).val rfl rfl
          clear hd
          go_simp
          exact hK.out _ _ (by first | rfl | (simp only [e42, e43]; done) | (simp only [e42, e43]; rfl)) (GB.refl _ _ _ _ _) hS.or
        refine StepsOkB.cons (StepOkB.known rfl fun y W b hbq hS hd K' hK => ?_) ?_
        · skip
          have e44 : y 44 = .pointer (some ⟨w.heap.size + 3, k, none⟩) := (hd 9 rfl).val rfl rfl
          clear hd
          have hc := (hS.bx.s1.cell k).trans (sn_at k hk2)
          go_simp
          exact hK.out _ _ (by first | rfl | (simp only [e44]; done) | (simp only [e44]; rfl)) (GB.refl _ _ _ _ _) hS.or
        refine StepsOkB.cons (StepOkB.other rfl fun y W b hbq hS hd K' hK => ?_) ?_
        · skip
          have e41 : y 41 = .slice dA DL.length dc := (hd 6 rfl).val rfl rfl
          have e45 : y 45 = .string (P25.sn k) := (hd 10 rfl).val rfl rfl
          clear hd
          go_simp
          refine (made17_any dA dc DL (P25.sn k) W (HDR.out.below hS.bx.bel)).mono ?_
          rintro e W' ⟨⟨v, rfl, hrow⟩, hc⟩
          obtain ⟨mA, mc, rfl⟩ := row_is hrow
          go_wp2_with fail
          have hle := hS.le
          exact hK.out _ _ _ (by first | rfl | (simp only [e41, e45]; done) | (simp only [e41, e45]; rfl)) (GB.below _ hc) (hS.below hc).or (show ∃ mA mc, _ = Value.slice mA (P17.made DL (P25.sn k)).length mc ∧ RowOf _ wr.heap.size 83 11 RV.cells mA mc (P17.made DL (P25.sn k)) from ⟨mA, mc, rfl, own_base hrow hle⟩)
        refine StepsOkB.cons (StepOkB.other rfl fun y W b hbq hS hd K' hK => ?_) ?_
        · skip
          have e36 : y 36 = .slice rA (P25.rules d.dr k).length rc := (hd 1 rfl).val rfl rfl
          have x11 : (fun (y : Nat → Value) (W : World) => ∃ mA mc, y 46 = .slice mA (P17.made DL (P25.sn k)).length mc ∧ RowOf W wr.heap.size 83 11 RV.cells mA mc (P17.made DL (P25.sn k))) y W := (hd 11 rfl).ex rfl
          clear hd
          have hb1 := hbq.1 (.inl rfl)
          subst hb1
          obtain ⟨mA, mc, h1, h2⟩ := x11
          have hle := hS.le
          obtain ⟨hz, hbw⟩ := hS.ahead rfl
          obtain ⟨i1, hi, hz0, hz1, hz2⟩ := info_parts infoRuleC
          obtain ⟨gm, rfl, _, _⟩ := h2.addr (by have := HTWO.out; omega)
          refine step_append_own (by rfl) _ _ 27 (by rfl) (w.heap.size + 7) 83 i1 _ 11 104 Tryd.underlying27 hi hz0 hz1 hz2 rfl (by decide) (.slice rA (P25.rules d.dr k).length rc) (P25.rules d.dr k).length ((P25.rules d.dr k).flatMap RV.cells) (by first | rfl | (simp only [e36]; rfl)) hz ⟨gm, 0, none⟩ (P17.made DL (P25.sn k)).length mc ((P17.made DL (P25.sn k)).flatMap RV.cells) (by first | rfl | (simp only [h1]; rfl)) (fl_len len_rule _) (World.ownsRow.cells h2 rfl) (one_fl one_rule _) (by have := HRL.out; have := HFIVE.out; simp only [maxLen]; omega) (by have := HRL.out; have := HFIVE.out; omega) (Nat.le_trans HGL.out hle) ?_
          intro v1 w6 hown hgr
          obtain ⟨rA', rc', rfl⟩ := row_is hown
          have hG := GB.grown (B := 32) (by decide) hz HZ0.out hgr
          exact hK.out _ _ _ rfl hG (hS.grown hz hgr) (show ∃ rA'' rc'', _ = Value.slice rA'' ((P25.rules d.dr k).length + (P17.made DL (P25.sn k)).length) rc'' ∧ RowOf _ (w.heap.size + 7) 83 11 RV.cells rA'' rc'' (P25.rules d.dr k ++ P17.made DL (P25.sn k)) from ⟨rA', rc', rfl, by unfold RowOf; rw [List.length_append, List.flatMap_append]; exact hown⟩)
        refine StepsOkB.cons (StepOkB.known rfl fun y W b hbq hS hd K' hK => ?_) ?_
        · skip
          clear hd
          go_simp
          exact hK.out _ _ rfl (GB.refl _ _ _ _ _) hS.or
        refine StepsOkB.cons (StepOkB.other rfl fun y W b hbq hS hd K' hK => ?_) ?_
        · skip
          have x12 : (fun (y : Nat → Value) (W : World) => ∃ rA' rc', y 47 = .slice rA' ((P25.rules d.dr k).length + (P17.made DL (P25.sn k)).length) rc' ∧ RowOf W (w.heap.size + 7) 83 11 RV.cells rA' rc' (P25.rules d.dr k ++ P17.made DL (P25.sn k))) y W := (hd 12 rfl).ex rfl
          have e48 : y 48 = .pointer (some ⟨w.heap.size + 6, 0, none⟩) := (hd 13 rfl).val rfl rfl
          clear hd
          have hb1 := hbq.2 rfl
          subst hb1
          obtain ⟨rA', rc', h1, h2⟩ := x12
          obtain ⟨v, hv, _⟩ := hS.own
          have k1 := (hv.cell 0).trans rfl
          have f1 := hv.frozen 0
          have t1 := hv.set_ 0 (.slice rA' ((P25.rules d.dr k).length + (P17.made DL (P25.sn k)).length) rc')
          have q1 := GB.set_ (T := 83) (N := wr.heap.size) true hv 0 (.slice rA' ((P25.rules d.dr k).length + (P17.made DL (P25.sn k)).length) rc')
          have hs' := hS.set1 hv (.slice rA' ((P25.rules d.dr k).length + (P17.made DL (P25.sn k)).length) rc')
          have HH := Lib.hid (And.intro t1 (And.intro q1 hs'))
          clear t1 q1 hs'
          go_simp
          exact hK.out undef _ _ (by first | rfl | (simp only [h1, e48]; done) | (simp only [h1, e48]; rfl)) HH.out.2.1 HH.out.2.2 (show ∃ rA' rc', RowOf _ (w.heap.size + 7) 83 11 RV.cells rA' rc' (P25.rules d.dr k ++ P17.made DL (P25.sn k)) ∧ Blk _ (w.heap.size + 6) 32 #[.slice rA' ((P25.rules d.dr k).length + (P17.made DL (P25.sn k)).length) rc', .slice none 0 0, .slice none 0 0, .slice none 0 0] from ⟨rA', rc', HH.out.2.1.rowA (by decide) (.inr (.inr rfl)) h2, HH.out.1⟩)
        exact StepsOkB.nil

    · obtain rfl : k = MD := by omega
      obtain ⟨w1, hw1⟩ : ∃ x, x = wr := ⟨_, rfl⟩
      subst hw1
      obtain ⟨v, hv, hv2⟩ := hem.own
      obtain rfl := hv2 rfl
      have HB1 := Lib.hid hem.bx; have HR1 := Lib.hid (hem.ahead rfl).1; have HG1 := Lib.hid hgl
      obtain ⟨RR, hRR⟩ : ∃ R, P25.rules d.dr k = R := ⟨_, rfl⟩
      rw [hRR] at hv HR1
      have HRR := Lib.hid hRR
      have HZL := Lib.hid (show Zl w w1 w1 d 0 (.slice rA RR.length rc) none 0 [] from ⟨hem.bx, KL.refl _ _, hv, World.ownsRow_nil .., fun y hy => by simp at hy⟩)
      have c1 := (hem.bx.dx.cell 1).trans rfl
      have hZ4 := HZM.out
      obtain ⟨MD, hMD0⟩ : ∃ M, k = M := ⟨_, rfl⟩
      subst hMD0
      have hzz0 : (0 : Int) ≤ (ZN : Int) := by omega
      clear hem hgl hv hv2 hlt hRR hk
      go_wp2_with fail
      clear c1 hZ4
      go_loopw [54] (fun i W => ∃ j : Nat, j ≤ ZN ∧ i = .int .i64 j ∧ ∃ n yA yc Y, Zl w w1 W d n (.slice rA RR.length rc) yA yc Y ∧ P25.zonesTo d.nums d.dr k j = (Y.map (fun z => (z.name, z.eras)), n)) (fun i _ => ZN - (intOf i).toNat)
      case atStart => exact ⟨0, Nat.zero_le _, rfl, 0, none, 0, [], HZL.out, rfl⟩
      case round =>
        clear HZL
        obtain ⟨wo, hwo⟩ : ∃ x, x = wr := ⟨_, rfl⟩
        subst hwo
        obtain ⟨j, hj, rfl, n, yA, yc, Y, hzl, hzt⟩ := hrel
        have HZL := Lib.hid hzl; have HZT := Lib.hid hzt
        by_cases hjt : j < ZN
        · have hji : (j : Int) < (ZN : Int) := by omega
          have hj0 : (0 : Int) ≤ (j : Int) := by omega
          have hj3 : j < 3 := by omega
          have hj3i : (j : Int) < 3 := by omega
          have HJT := Lib.hid hjt
          have hn : n ≤ 400 := by have q := zones25_le d.nums d.dr k j; rw [hzt] at q; simp at q; omega
          have hc := (hzl.bx.s2.cell j).trans (zn_at j hj3)
          have al := (Below.refl wo.heap.size wo).alloc (Nat.le_refl _) (.cells #[.string (P25.zn j), .slice none 0 0] 39)
          have HEL := Lib.hid (show El w (wo.alloc (.cells #[.string (P25.zn j), .slice none 0 0] 39)) (wo.alloc (.cells #[.string (P25.zn j), .slice none 0 0] 39)) d n wo.heap.size (P25.zn j) none 0 [] from ⟨hzl.bx.below al, KL.refl _ _, Blk.new wo 39 _, World.ownsRow_nil ..⟩)
          have HWO := Lib.hid (show w.heap.size + 7 ≤ wo.heap.size from Nat.le_trans HG1.out hzl.kl.le)
          have HWI := Lib.hid (show w.heap.size + 7 ≤ (wo.alloc (.cells #[.string (P25.zn j), .slice none 0 0] 39)).heap.size by have := HWO.out; simp; omega)
          have HBI := Lib.hid al
          have HBZ := Lib.hid (show wo.heap.size < (wo.alloc (.cells #[.string (P25.zn j), .slice none 0 0] 39)).heap.size by simp)
          obtain ⟨A1, hA1⟩ : ∃ g, P25.g d.nums (n + 1) 60 = g := ⟨_, rfl⟩
          obtain ⟨A2, hA2⟩ : ∃ g, P25.g d.nums (n + 1 + 1) 4 = g := ⟨_, rfl⟩
          have hA160 : (A1 : Int) < 60 := by have := P25.g_lt d.nums (n + 1) (m := 60) (by decide); omega
          have hA24 : (A2 : Int) < 4 := by have := P25.g_lt d.nums (n + 1 + 1) (m := 4) (by decide); omega
          have HA1 := Lib.hid hA1; have HA2 := Lib.hid hA2; have HN := Lib.hid hn
          clear hzl hzt hjt hn al hA1 hA2
          go_wp2_with fail
          clear hc
          generalize wo.alloc (.cells #[.string (P25.zn j), .slice none 0 0] 39) = wi at HEL HWI HBI HBZ ⊢
          refine (HEL.out.bx.ask HD.out 60 60 rfl (by decide) (by have := HN.out; omega) A1 HA1.out).mono ?_
          rintro e Wa ⟨rfl, hbx, hcs⟩
          have HEL1 := Lib.hid (HEL.out.step HWI.out HWO.out hbx hcs)
          clear hbx hcs HEL
          go_wp2_with fail
          refine (HEL1.out.bx.ask HD.out 4 4 rfl (by decide) (by have := HN.out; omega) A2 HA2.out).mono ?_
          rintro e Wb ⟨rfl, hbx, hcs⟩
          have HEL2 := Lib.hid (HEL1.out.step HWI.out HWO.out hbx hcs)
          clear hbx hcs HEL1
          go_wp2_with fail
          go_loopw [68] (fun i W => ∃ q : Nat, q ≤ 1 + A2 ∧ i = .int .i64 q ∧ ∃ m eA ec Es, El w wi W d m wo.heap.size (P25.zn j) eA ec Es ∧ P25.erasTo d.nums d.dr k (n + 2) q = (Es, m)) (fun i _ => 1 + A2 - (intOf i).toNat)
          case atStart => exact ⟨0, Nat.zero_le _, rfl, n + 2, none, 0, [], HEL2.out, rfl⟩
          case round =>
            clear HEL2
            obtain ⟨wq, hwq⟩ : ∃ x, x = wr := ⟨_, rfl⟩
            subst hwq
            obtain ⟨q, hq, rfl, m, eA, ec, Es, hel, het⟩ := hrel
            have HEL := Lib.hid hel; have HET := Lib.hid het
            by_cases hqt : q < 1 + A2
            · have hqi : (q : Int) < 1 + (A2 : Int) := by omega
              have hq0 : (0 : Int) ≤ (q : Int) := by omega
              have HQT := Lib.hid hqt
              have hm : m ≤ 1000 := by have z := eras25_le d.nums d.dr k (n + 2) q; rw [het] at z; simp at z; have := HN.out; omega
              obtain ⟨A, hA⟩ : ∃ g, P25.g d.nums (m + 1) 53 = g := ⟨_, rfl⟩
              obtain ⟨B, hB⟩ : ∃ g, P25.g d.nums (m + 1 + 1) 4 = g := ⟨_, rfl⟩
              obtain ⟨C, hC⟩ : ∃ g, P25.g d.nums (m + 1 + 1 + 1) 5 = g := ⟨_, rfl⟩
              have hA53 : (A : Int) < 53 := by have := P25.g_lt d.nums (m + 1) (m := 53) (by decide); omega
              have hB4 : B < 4 := by have := P25.g_lt d.nums (m + 1 + 1) (m := 4) (by decide); omega
              have hB4i : (B : Int) < 4 := by omega
              have hC5 : (C : Int) < 5 := by have := P25.g_lt d.nums (m + 1 + 1 + 1) (m := 5) (by decide); omega
              have HA := Lib.hid hA; have HB := Lib.hid hB; have HC := Lib.hid hC; have HM := Lib.hid hm
              clear hel het hqt hm hA hB hC
              go_wp2_with fail
              refine (HEL.out.bx.ask HD.out 53 53 rfl (by decide) (by have := HM.out; omega) A HA.out).mono ?_
              rintro e Wc ⟨rfl, hbx, hcs⟩
              have HEL3 := Lib.hid ((HEL.out.step HWI.out HWO.out hbx hcs).below ((Below.refl Wc.heap.size Wc).alloc (Nat.le_refl _) (.cells #[.string ⟨#[76, 77, 84]⟩, .string ⟨#[71, 77, 84, 47, 66, 83, 84]⟩, .string ⟨#[67, 69, 37, 115, 84]⟩, .string ⟨#[37, 122]⟩] 9)))
              have HLB := Lib.hid (Blk.new Wc 9 #[.string ⟨#[76, 77, 84]⟩, .string ⟨#[71, 77, 84, 47, 66, 83, 84]⟩, .string ⟨#[67, 69, 37, 115, 84]⟩, .string ⟨#[37, 122]⟩])
              have HWC := Lib.hid (show w.heap.size + 7 ≤ Wc.heap.size by have := HWI.out; have := HEL.out.kl.sz; have := HEL.out.kl.le; have := hcs.sz; omega)
              have HCZ := Lib.hid (show wq.heap.size = Wc.heap.size from hcs.sz.symm)
              clear hbx hcs
              go_wp2_with fail
              refine (HEL3.out.bx.ask HD.out 4 4 rfl (by decide) (by have := HM.out; omega) B HB.out).mono ?_
              rintro e Wd ⟨rfl, hbx, hcs⟩
              have HEL4 := Lib.hid (HEL3.out.step HWI.out HWO.out hbx hcs)
              have hlb := hcs.box HLB.out (by have := HWC.out; omega)
              have hc := (hlb.cell B).trans (f4_at B hB4)
              have hsz := hcs.sz
              have HDZ := Lib.hid (show wq.heap.size < Wd.heap.size by have := HCZ.out; simp at hsz; omega)
              clear hbx hcs hlb hsz HEL3 HLB
              go_wp2_with fail
              clear hc
              refine ((HEL4.out.below ((Below.refl Wd.heap.size Wd).alloc (Nat.le_refl _) (.cells #[.int .i64 (((A : Int) - 26) * 1800), .int .i64 0, .int .i64 0, .string ⟨#[]⟩, .string (P25.f4 B), .bool false, .int .i64 0, .int .i64 0, .int .i64 0, .int .i64 0, .int .i64 0, .int .i64 0, .int .i64 0] 47))).bx.ask HD.out 5 5 rfl (by decide) (by have := HM.out; omega) C HC.out).mono ?_
              rintro e We ⟨rfl, hbx, hcs⟩
              have HEL5 := Lib.hid ((HEL4.out.below ((Below.refl Wd.heap.size Wd).alloc (Nat.le_refl _) (.cells #[.int .i64 (((A : Int) - 26) * 1800), .int .i64 0, .int .i64 0, .string ⟨#[]⟩, .string (P25.f4 B), .bool false, .int .i64 0, .int .i64 0, .int .i64 0, .int .i64 0, .int .i64 0, .int .i64 0, .int .i64 0] 47))).step HWI.out HWO.out hbx hcs)
              have hwo := HWO.out
              have hwi := HWI.out
              have hzi : wo.heap.size < wi.heap.size := HBZ.out
              have heb : wi.heap.size ≤ Wd.heap.size := Nat.le_trans HEL4.out.kl.sz HEL4.out.kl.le
              have HEB := Lib.hid (hcs.box (Blk.new Wd 47 #[.int .i64 (((A : Int) - 26) * 1800), .int .i64 0, .int .i64 0, .string ⟨#[]⟩, .string (P25.f4 B), .bool false, .int .i64 0, .int .i64 0, .int .i64 0, .int .i64 0, .int .i64 0, .int .i64 0, .int .i64 0]) (by omega))
              have HEG := Lib.hid (show wi.heap.size ≤ Wd.heap.size ∧ wo.heap.size ≠ Wd.heap.size ∧ (∀ K, (Value.slice eA Es.length ec).ownBlock = some K → K ≠ Wd.heap.size) from ⟨heb, by omega, fun K hK => by have z := (World.ownsRow.lt HEL.out.row K hK).2; have := HDZ.out; omega⟩)
              have HEL' := Lib.hid (And.intro HEL.out.row HEL.out.kl)
              clear hbx hcs HEL4 hwo hwi hzi heb HEL
              generalize Wd.heap.size = eb at HEB HEG ⊢
              go_upto_region 21 with fail
              obtain ⟨BS, hBS⟩ : ∃ b, decide (0 < q ∧ 1 < C ∧ 0 < k) = b := ⟨_, rfl⟩
              have HBS := Lib.hid hBS
              clear hBS
              go_cut [92] (fun s92 wx => s92 = .bool BS ∧ wx = We)
              case first =>
                by_cases g1 : 0 < q
                · have d1 : (0 : Int) < (q : Int) := by omega
                  by_cases g2 : 1 < C
                  · have d2 : (1 : Int) < (C : Int) := by omega
                    by_cases g3 : 0 < k
                    · have d3 : (0 : Int) < (k : Int) := by omega
                      have HR := Lib.hid (show decide (0 < q ∧ 1 < C ∧ 0 < k) = true by rw [decide_eq_true_eq]; exact ⟨g1, g2, g3⟩)
                      clear g1 g2 g3
                      go_wp2_with fail
                      go_meet
                      exact ⟨by rw [← HBS.out, HR.out]; exact congrArg Value.bool (decide_eq_true (by omega)), rfl⟩
                    · have d3 : ¬ (0 : Int) < (k : Int) := by omega
                      have HR := Lib.hid (show decide (0 < q ∧ 1 < C ∧ 0 < k) = false by rw [decide_eq_false_iff_not]; exact fun z => g3 z.2.2)
                      clear g1 g2 g3
                      go_wp2_with fail
                      go_meet
                      exact ⟨by rw [← HBS.out, HR.out]; exact congrArg Value.bool (decide_eq_false (by omega)), rfl⟩
                  · have d2 : ¬ (1 : Int) < (C : Int) := by omega
                    have HR := Lib.hid (show decide (0 < q ∧ 1 < C ∧ 0 < k) = false by rw [decide_eq_false_iff_not]; exact fun z => g2 z.2.1)
                    clear g1 g2
                    go_wp2_with fail
                    go_meet
                    exact ⟨by rw [← HBS.out, HR.out], rfl⟩
                · have d1 : ¬ (0 : Int) < (q : Int) := by omega
                  have HR := Lib.hid (show decide (0 < q ∧ 1 < C ∧ 0 < k) = false by rw [decide_eq_false_iff_not]; exact fun z => g1 z.1)
                  clear g1
                  go_wp2_with fail
                  go_meet
                  exact ⟨by rw [← HBS.out, HR.out], rfl⟩
              case rest =>
                obtain ⟨rfl, rfl⟩ := hcut
                obtain ⟨We, hWe⟩ : ∃ x, x = wc := ⟨_, rfl⟩
                subst hWe
                go_upto_if 92 with fail
                go_cut [17] (fun s17 wx => ∃ e m', P25.era d.nums d.dr k q m = (e, m') ∧ Hid (El w wi wx d m' wo.heap.size (P25.zn j) eA ec Es ∧ Blk wx eb 47 #[.int .i64 e.off, .int .i64 e.kind, .int .i64 e.save, .string e.set, .string e.fmt, .bool e.ui, .int .i64 e.uy, .int .i64 e.um, .int .i64 e.dk, .int .i64 e.dw, .int .i64 e.dd, .int .i64 e.asec, .int .i64 e.ab]))
                case first =>
                  cases BS with
                  | true =>
                    have HP := Lib.hid (of_decide_eq_true HBS.out)
                    obtain ⟨S2, hS2⟩ : ∃ g, P25.g d.nums (m + 1 + 1 + 1 + 1) k = g := ⟨_, rfl⟩
                    obtain ⟨O, hO⟩ : ∃ g, P25.g d.nums (m + 1 + 1 + 1 + 1 + 1) 49 = g := ⟨_, rfl⟩
                    obtain ⟨KD, hKD⟩ : ∃ g, P25.g d.nums (m + 1 + 1 + 1 + 1 + 1 + 1) 4 = g := ⟨_, rfl⟩
                    have hSk : S2 < k := by have := P25.g_lt d.nums (m + 1 + 1 + 1 + 1) (m := k) HP.out.2.2; omega
                    have hS22 : S2 < 2 := by have := HM3.out.2; omega
                    have hO49 : (O : Int) < 49 := by have := P25.g_lt d.nums (m + 1 + 1 + 1 + 1 + 1) (m := 49) (by decide); omega
                    have hK4 : (KD : Int) < 4 := by have := P25.g_lt d.nums (m + 1 + 1 + 1 + 1 + 1 + 1) (m := 4) (by decide); omega
                    have hset : S2 < d.sets.length := by have := HM3.out.1; omega
                    have hsi : (S2 : Int) < (d.sets.length : Int) := by omega
                    have hs2i : (S2 : Int) < 2 := by omega
                    have hs0 : (0 : Int) ≤ (S2 : Int) := by omega
                    obtain ⟨s, hs⟩ : ∃ s, d.sets[S2]? = some s := ⟨_, List.getElem?_eq_getElem hset⟩
                    obtain ⟨gs, os, hA2, hgs, hcs⟩ := HD.out.sets S2 s hs
                    have HDR0 := Lib.hid (HD.out.draws s (List.mem_of_getElem? hs))
                    have HDRK := Lib.hid (show d.dr S2 = s.2.2 by unfold D25.dr; rw [hs]; rfl)
                    obtain ⟨dA, dc, DL⟩ := s
                    have HDR := HDR0
                    have HXW := Lib.hid (show w.cell? ⟨gs, os + S2, none⟩ = some (.slice dA DL.length dc) by have z := hcs 0 _ rfl; simpa using z)
                    have HGS := Lib.hid hgs; have HSA := Lib.hid hA2
                    have HGM := Lib.hid (P17.made_good DL (P25.sn S2))
                    have HS2 := Lib.hid hS2; have HO := Lib.hid hO; have HKD := Lib.hid hKD; have HK1 := Lib.hid (show 1 ≤ k ∧ k ≤ 1000 from ⟨HP.out.2.2, by have := HM3.out.2; omega⟩)
                    rw [hA2]
                    clear hs hgs hcs hset hS2 hO hKD hSk hA2
                    go_wp2_with fail
                    refine (HEL5.out.bx.ask HD.out k (k : Int) rfl HK1.out (by have := HM.out; omega) S2 HS2.out).mono ?_
                    rintro e Wf ⟨rfl, hbx, hcs⟩
                    have HEL6 := Lib.hid (HEL5.out.step HWI.out HWO.out hbx hcs)
                    have HEB6 := Lib.hid (hcs.box HEB.out (by have := HEG.out.1; have := HWI.out; omega))
                    clear hbx hcs
                    go_upto_region 23 with fail
                    refine wp_region_shapeE [(some 96, []), (some 97, [0]), (some 98, []), (some 99, [1, 2]), (some 100, [3]), (some 101, []), (some 102, []), (some 103, [5, 6]), (some 104, [7]), (some 105, [4, 8]), (some 106, []), (some 107, [10, 9]), (some 108, [11]), (some 109, []), (some 110, [13, 11]), (some 111, [14]), (some 112, [9, 12, 15, 14]), (none, [16, 16, 0, 1, 2, 3, 4, 5, 6, 7, 8, 9, 10, 11, 12, 13, 14, 15, 16])] (fun y => { tmps := #[.agg #[.slice (some ⟨gs, os, none⟩) d.sets.length d.sc, .int .u8 d.zs, .int .u8 d.ls, .slice d.lA d.nums.length d.lc], .pointer (some ⟨w.heap.size, 0, none⟩), .pointer (some ⟨w.heap.size + 1, 0, none⟩), .pointer (some ⟨w.heap.size + 2, 0, none⟩), .func (.func 68) #[] #[.pointer (some ⟨w.heap.size + 2, 0, none⟩), .pointer (some ⟨w.heap.size, 0, none⟩)], .slice (some ⟨w.heap.size + 3, 0, none⟩) 2 2, .slice (some ⟨w.heap.size + 4, 0, none⟩) 3 3, .slice (some ⟨w.heap.size + 5, 0, none⟩) 3 3, .pointer (some ⟨w.heap.size + 6, 0, none⟩), .int .i64 k, u10, .int .i64 j, .pointer (some ⟨wo.heap.size, 0, none⟩), .int .i64 (1860 + A1), .int .i64 q, .pointer (some ⟨eb, 0, none⟩), .int .i64 C, .int .i64 S2, u18, undef, undef, .func (.func 68) #[] #[.pointer (some ⟨w.heap.size + 2, 0, none⟩), .pointer (some ⟨w.heap.size, 0, none⟩)], .tuple #[.slice (some ⟨w.heap.size + 3, 0, none⟩) 2 2, .slice (some ⟨w.heap.size + 4, 0, none⟩) 3 3, .slice (some ⟨w.heap.size + 5, 0, none⟩) 3 3], .tuple #[.slice (some ⟨w.heap.size + 3, 0, none⟩) 2 2, .slice (some ⟨w.heap.size + 4, 0, none⟩) 3 3, .slice (some ⟨w.heap.size + 5, 0, none⟩) 3 3], .slice (some ⟨w.heap.size + 3, 0, none⟩) 2 2, .slice (some ⟨w.heap.size + 4, 0, none⟩) 3 3, .slice (some ⟨w.heap.size + 5, 0, none⟩) 3 3, .pointer (some ⟨w.heap.size, 0, none⟩), .slice (some ⟨gs, os, none⟩) d.sets.length d.sc, .int .i64 d.sets.length, .int .i64 k, .int .i64 k, .int .i64 k, .bool false, u34, u35, u36, u37, u38, u39, u40, u41, u42, u43, u44, u45, u46, u47, u48, u49, .pointer (some ⟨w.heap.size, 1, none⟩), .int .u8 d.zs, .int .u8 ZN, .int .i64 ZN, .int .i64 j, .bool true, .int .i64 j, .slice (some ⟨w.heap.size + 4, 0, none⟩) 3 3, .int .i64 j, .pointer (some ⟨w.heap.size + 4, j, none⟩), .string (P25.zn j), .agg #[.string (P25.zn j), .slice none 0 0], .func (.func 68) #[] #[.pointer (some ⟨w.heap.size + 2, 0, none⟩), .pointer (some ⟨w.heap.size, 0, none⟩)], .int .i64 A1, .int .i64 (1860 + A1), .func (.func 68) #[] #[.pointer (some ⟨w.heap.size + 2, 0, none⟩), .pointer (some ⟨w.heap.size, 0, none⟩)], .int .i64 A2, .int .i64 (1 + A2), .int .i64 q, u69, u70, u71, u72, u73, u74, u75, u76, u77, u78, u79, u80, u81, u82, u83, u84, u85, u86, u87, u88, u89, u90, u91, .bool true, .func (.func 68) #[] #[.pointer (some ⟨w.heap.size + 2, 0, none⟩), .pointer (some ⟨w.heap.size, 0, none⟩)], .int .i64 k, .int .i64 S2, y 96, y 97, y 98, y 99, y 100, y 101, y 102, y 103, y 104, y 105, y 106, y 107, y 108, y 109, y 110, y 111, y 112, u113, u114, u115, u116, u117, u118, u119, u120, u121, u122, u123, u124, u125, u126, u127, u128, u129, u130, u131, u132, u133, u134, u135, u136, u137, u138, u139, u140, u141, u142, u143, u144, u145, u146, u147, u148, u149, u150, u151, u152, u153, u154, u155, u156, u157, u158, u159, u160, u161, u162, u163, u164, u165, u166, u167, u168, u169, u170, u171, u172, u173, undef, undef, undef, undef, undef, undef, undef, undef, undef, undef, undef, undef, undef, undef, undef, undef, undef, undef, undef, undef, undef, undef, undef, undef, undef, undef, undef, undef, undef, undef, undef, undef, undef, undef, undef, undef, undef, undef, undef, undef, undef, undef, undef, undef, undef, undef], defers := [] }) (fun k => match k with | 96 => u96 | 97 => u97 | 98 => u98 | 99 => u99 | 100 => u100 | 101 => u101 | 102 => u102 | 103 => u103 | 104 => u104 | 105 => u105 | 106 => u106 | 107 => u107 | 108 => u108 | 109 => u109 | 110 => u110 | 111 => u111 | 112 => u112 | _ => undef) (fun j => j == 9 || j == 17) [.pointer (some ⟨w.heap.size, 0, none⟩), .slice (some ⟨gs, os, none⟩) d.sets.length d.sc, .int .i64 S2, .pointer (some ⟨gs, os + S2, none⟩), .slice dA DL.length dc, .slice (some ⟨w.heap.size + 3, 0, none⟩) 2 2, .int .i64 S2, .pointer (some ⟨w.heap.size + 3, S2, none⟩), .string (P25.sn S2), undef, .func (.func 68) #[] #[.pointer (some ⟨w.heap.size + 2, 0, none⟩), .pointer (some ⟨w.heap.size, 0, none⟩)], .int .i64 O, .int .u8 O, .func (.func 68) #[] #[.pointer (some ⟨w.heap.size + 2, 0, none⟩), .pointer (some ⟨w.heap.size, 0, none⟩)], .int .i64 KD, .int .u8 KD, .agg #[.int .i64 (offOf (O : Int)), .int .i64 2, .int .i64 0, .string ⟨#[82]⟩, .string (fmt21 ((KD : Int).tmod 5) (O : Int) (P17.made DL (P25.sn S2))), .bool false, .int .i64 0, .int .i64 0, .int .i64 0, .int .i64 0, .int .i64 0, .int .i64 0, .int .i64 0], undef] (fun j y W => match j with | 9 => ∃ mA mc, y 105 = .slice mA (P17.made DL (P25.sn S2)).length mc ∧ RowOf W Wf.heap.size 83 11 RV.cells mA mc (P17.made DL (P25.sn S2)) | 17 => Blk W eb 47 #[.int .i64 (offOf (O : Int)), .int .i64 2, .int .i64 0, .string ⟨#[82]⟩, .string (fmt21 ((KD : Int).tmod 5) (O : Int) (P17.made DL (P25.sn S2))), .bool false, .int .i64 0, .int .i64 0, .int .i64 0, .int .i64 0, .int .i64 0, .int .i64 0, .int .i64 0] | _ => True) (fun j => match j with | 9 => [105] | 17 => [] | _ => []) (GI) (fun ex W => S3 w wi Wf W d (m + 1 + 1 + 1 + 1) wo.heap.size (P25.zn j) eA ec Es eb (ex 11) (ex 14)) (by kernel_rfl) (by kernel_rfl) (by decide +kernel) rfl ⟨⟨_, rfl, HEL6.out.below (Below.refl _ _).drew⟩, ⟨_, rfl, HEB6.out.below (Below.refl _ _).drew HEB6.out.lt⟩, Nat.le_refl _⟩ ?hput23 ?hloc23 ?hmono23 ?hstep23 ?hdone23
                    case hput23 =>
                      intro d hd y v
                      simp only [List.filterMap_cons, List.filterMap_nil, List.mem_cons, List.not_mem_nil, or_false] at hd
                      rcases hd with rfl | rfl | rfl | rfl | rfl | rfl | rfl | rfl | rfl | rfl | rfl | rfl | rfl | rfl | rfl | rfl | rfl
                      all_goals rfl
                    case hloc23 =>
                      intro j hj y y' W hk hx
                      have hj' : j = 9 ∨ j = 17 := by simpa [or_assoc] using hj
                      rcases hj' with rfl | rfl
                      · simp only [List.forall_mem_cons, List.not_mem_nil, false_imp_iff, implies_true, and_true] at hk
                        show _
                        simpa only [hk] using hx
                      · skip
                        exact hx
                    case hmono23 =>
                      intro j hj hlast y W W' hg hx
                      have hj' : j = 9 ∨ j = 17 := by simpa [or_assoc] using hj
                      rcases hj' with rfl | rfl
                      · obtain ⟨mA, mc, h1, h2⟩ := hx; exact ⟨mA, mc, h1, hg.row (by decide) (by decide) h2⟩
                      · exact absurd hlast (by decide)
                    case hdone23 =>
                      intro y3 w3 hS hd
                      have x17 : (fun (y : Nat → Value) (W : World) => Blk W eb 47 #[.int .i64 (offOf (O : Int)), .int .i64 2, .int .i64 0, .string ⟨#[82]⟩, .string (fmt21 ((KD : Int).tmod 5) (O : Int) (P17.made DL (P25.sn S2))), .bool false, .int .i64 0, .int .i64 0, .int .i64 0, .int .i64 0, .int .i64 0, .int .i64 0, .int .i64 0]) y3 w3 := (hd 17 (by decide)).ex rfl
                      have hall := hS.all
                      have hb := x17
                      clear hd hS
                      have HEh := Lib.hid hall; have HXh := Lib.hid hb
                      obtain ⟨Wh, hWh⟩ : ∃ x, x = w3 := ⟨_, rfl⟩
                      subst hWh
                      have k3 := (hb.cell 3).trans rfl; have f3 := hb.frozen 3
                      have c3 := (hall.bx.s1.cell S2).trans (sn_at S2 hS22)
                      clear hall hb
                      go_wp2_with fail
                      rw [← HSA.out]
                      go_meet
                      have z := HXh.out.set_ 3 (.string (P25.sn S2))
                      refine ⟨_, _, era_set HC.out HS2.out HO.out HKD.out HP.out, Lib.hid ⟨HEh.out.set_ (wj := wi) HWI.out HEG.out.1 HEG.out.2.1 HEG.out.2.2 3 (.string (P25.sn S2)), ?_⟩⟩
                      rw [HDRK.out]
                      exact z
                    case hstep23 =>
                      refine StepsOkE.cons (StepOkE.known rfl fun y W ex hex hS hd K' hK => ?_) ?_
                      · skip
                        clear hd
                        go_simp
                        exact hK.out _ _ rfl (GI.refl _) hS
                      refine StepsOkE.cons (StepOkE.known rfl fun y W ex hex hS hd K' hK => ?_) ?_
                      · skip
                        have e96 : y 96 = .pointer (some ⟨w.heap.size, 0, none⟩) := (hd 0 rfl).val rfl rfl
                        clear hd
                        obtain ⟨N, _, hel⟩ := hS.el
                        have hc := (hel.bx.dx.cell 0).trans rfl
                        have hA := HSA.out
                        go_simp
                        exact hK.out _ _ (by first | rfl | (simp only [e96]; done) | (simp only [e96]; rfl)) (GI.refl _) hS
                      refine StepsOkE.cons (StepOkE.known rfl fun y W ex hex hS hd K' hK => ?_) ?_
                      · skip
                        clear hd
                        go_simp
                        exact hK.out _ _ rfl (GI.refl _) hS
                      refine StepsOkE.cons (StepOkE.known rfl fun y W ex hex hS hd K' hK => ?_) ?_
                      · skip
                        have e97 : y 97 = .slice (some ⟨gs, os, none⟩) d.sets.length d.sc := (hd 1 rfl).val rfl rfl
                        have e98 : y 98 = .int .i64 S2 := (hd 2 rfl).val rfl rfl
                        clear hd
                        go_simp
                        exact hK.out _ _ (by first | rfl | (simp only [e97, e98]; done) | (simp only [e97, e98]; rfl)) (GI.refl _) hS
                      refine StepsOkE.cons (StepOkE.known rfl fun y W ex hex hS hd K' hK => ?_) ?_
                      · skip
                        have e99 : y 99 = .pointer (some ⟨gs, os + S2, none⟩) := (hd 3 rfl).val rfl rfl
                        clear hd
                        have hc : W.cell? ⟨gs, os + S2, none⟩ = some (.slice dA DL.length dc) := (hS.bel.cell (p := ⟨gs, os + S2, none⟩) HGS.out).trans HXW.out
                        go_simp
                        exact hK.out _ _ (by first | rfl | (simp only [e99]; done) | (simp only [e99]; rfl)) (GI.refl _) hS
                      refine StepsOkE.cons (StepOkE.known rfl fun y W ex hex hS hd K' hK => ?_) ?_
                      · skip
                        clear hd
                        go_simp
                        exact hK.out _ _ rfl (GI.refl _) hS
                      refine StepsOkE.cons (StepOkE.known rfl fun y W ex hex hS hd K' hK => ?_) ?_
                      · skip
                        clear hd
                        go_simp
                        exact hK.out _ _ rfl (GI.refl _) hS
                      refine StepsOkE.cons (StepOkE.known rfl fun y W ex hex hS hd K' hK => ?_) ?_
                      · skip
                        have e101 : y 101 = .slice (some ⟨w.heap.size + 3, 0, none⟩) 2 2 := (hd 5 rfl).val rfl rfl
                        have e102 : y 102 = .int .i64 S2 := (hd 6 rfl).val rfl rfl
                        clear hd
                        go_simp
                        exact hK.out _ _ (by first | rfl | (simp only [e101, e102]; done) | (simp only [e101, e102]; rfl)) (GI.refl _) hS
                      refine StepsOkE.cons (StepOkE.known rfl fun y W ex hex hS hd K' hK => ?_) ?_
                      · skip
                        have e103 : y 103 = .pointer (some ⟨w.heap.size + 3, S2, none⟩) := (hd 7 rfl).val rfl rfl
                        clear hd
                        obtain ⟨N, _, hel⟩ := hS.el
                        have hc := (hel.bx.s1.cell S2).trans (sn_at S2 hS22)
                        go_simp
                        exact hK.out _ _ (by first | rfl | (simp only [e103]; done) | (simp only [e103]; rfl)) (GI.refl _) hS
                      refine StepsOkE.cons (StepOkE.other rfl fun y W ex hex hS hd K' hK => ?_) ?_
                      · skip
                        have e100 : y 100 = .slice dA DL.length dc := (hd 4 rfl).val rfl rfl
                        have e104 : y 104 = .string (P25.sn S2) := (hd 8 rfl).val rfl rfl
                        clear hd
                        go_simp
                        refine (made17_any dA dc DL (P25.sn S2) W (HDR.out.below hS.bel)).mono ?_
                        rintro e W' ⟨⟨v, rfl, hrow⟩, hc⟩
                        obtain ⟨mA, mc, rfl⟩ := row_is hrow
                        go_wp2_with fail
                        have hle := hS.le
                        exact hK.out _ _ _ (by first | rfl | (simp only [e100, e104]; done) | (simp only [e100, e104]; rfl)) (GI.below hc) (hS.below hc) (show ∃ mA mc, _ = Value.slice mA (P17.made DL (P25.sn S2)).length mc ∧ RowOf _ Wf.heap.size 83 11 RV.cells mA mc (P17.made DL (P25.sn S2)) from ⟨mA, mc, rfl, own_base hrow hle⟩)
                      refine StepsOkE.cons (StepOkE.known rfl fun y W ex hex hS hd K' hK => ?_) ?_
                      · skip
                        clear hd
                        go_simp
                        exact hK.out _ _ rfl (GI.refl _) hS
                      refine StepsOkE.cons (StepOkE.known rfl fun y W ex hex hS hd K' hK => ?_) ?_
                      · skip
                        have e106 : y 106 = .func (.func 68) #[] #[.pointer (some ⟨w.heap.size + 2, 0, none⟩), .pointer (some ⟨w.heap.size, 0, none⟩)] := (hd 10 rfl).val rfl rfl
                        clear hd
                        have ha := hex.1
                        have hb : ex 14 = false := by
                          cases h : ex 14 with
                          | false => rfl
                          | true => exact absurd (hex.2.2 14 h 11 (by decide)) (by rw [ha]; decide)
                        rw [ha, hb] at hS
                        go_simp
                        refine (hS.one.bx.ask HD.out 49 49 rfl (by decide) (by have := HM.out; omega) O HO.out).mono ?_
                        rintro e W' ⟨rfl, hbx, hcs⟩
                        go_wp2_with fail
                        have hs' := hS.at1 HWI.out HWO.out (Nat.le_trans HWI.out HEG.out.1) hbx hcs
                        exact hK.out _ _ (by first | rfl | (simp only [e106]; done) | (simp only [e106]; rfl)) (GI.cs hS.one.bx.nx hcs) (show S3 w wi Wf W' d _ wo.heap.size (P25.zn j) eA ec Es eb true (ex 14) by rw [hb]; exact hs')
                      refine StepsOkE.cons (StepOkE.known rfl fun y W ex hex hS hd K' hK => ?_) ?_
                      · skip
                        have e107 : y 107 = .int .i64 O := (hd 11 rfl).val rfl rfl
                        clear hd
                        have hw8 : IntKind.u8.wrap (O : Int) = (O : Int) := by show _ = _; unfold IntKind.wrap; simp [IntKind.bits, IntKind.signed]; omega
                        go_simp
                        exact hK.out _ _ (by first | rfl | (simp only [e107]; done) | (simp only [e107]; rfl)) (GI.refl _) hS
                      refine StepsOkE.cons (StepOkE.known rfl fun y W ex hex hS hd K' hK => ?_) ?_
                      · skip
                        clear hd
                        go_simp
                        exact hK.out _ _ rfl (GI.refl _) hS
                      refine StepsOkE.cons (StepOkE.known rfl fun y W ex hex hS hd K' hK => ?_) ?_
                      · skip
                        have e109 : y 109 = .func (.func 68) #[] #[.pointer (some ⟨w.heap.size + 2, 0, none⟩), .pointer (some ⟨w.heap.size, 0, none⟩)] := (hd 13 rfl).val rfl rfl
                        clear hd
                        have ha : ex 11 = true := hex.2.1 11 (by decide)
                        have hb := hex.1
                        rw [ha, hb] at hS
                        go_simp
                        refine (hS.two.bx.ask HD.out 4 4 rfl (by decide) (by have := HM.out; omega) KD HKD.out).mono ?_
                        rintro e W' ⟨rfl, hbx, hcs⟩
                        go_wp2_with fail
                        have hs' := hS.at2 HWI.out HWO.out (Nat.le_trans HWI.out HEG.out.1) hbx hcs
                        exact hK.out _ _ (by first | rfl | (simp only [e109]; done) | (simp only [e109]; rfl)) (GI.cs hS.two.bx.nx hcs) (show S3 w wi Wf W' d _ wo.heap.size (P25.zn j) eA ec Es eb (ex 11) true by rw [ha]; exact hs')
                      refine StepsOkE.cons (StepOkE.known rfl fun y W ex hex hS hd K' hK => ?_) ?_
                      · skip
                        have e110 : y 110 = .int .i64 KD := (hd 14 rfl).val rfl rfl
                        clear hd
                        have hw8 : IntKind.u8.wrap (KD : Int) = (KD : Int) := by show _ = _; unfold IntKind.wrap; simp [IntKind.bits, IntKind.signed]; omega
                        go_simp
                        exact hK.out _ _ (by first | rfl | (simp only [e110]; done) | (simp only [e110]; rfl)) (GI.refl _) hS
                      refine StepsOkE.cons (StepOkE.known rfl fun y W ex hex hS hd K' hK => ?_) ?_
                      · skip
                        have x9 : (fun (y : Nat → Value) (W : World) => ∃ mA mc, y 105 = .slice mA (P17.made DL (P25.sn S2)).length mc ∧ RowOf W Wf.heap.size 83 11 RV.cells mA mc (P17.made DL (P25.sn S2))) y W := (hd 9 rfl).ex rfl
                        have e108 : y 108 = .int .u8 O := (hd 12 rfl).val rfl rfl
                        have e111 : y 111 = .int .u8 KD := (hd 15 rfl).val rfl rfl
                        clear hd
                        obtain ⟨mA, mc, h1, h2⟩ := x9
                        go_simp
                        try simp only [h1, e108, e111]
                        refine (era21_any mA mc (P17.made DL (P25.sn S2)) (O : Int) (KD : Int) W (by omega) (by omega) (by have := HGM.out.five; omega) HGM.out.svOk (h2.cellsIn len_rule)).mono ?_
                        rintro e W' ⟨rfl, hc⟩
                        go_wp2_with fail
                        exact hK.out _ _ (by first | rfl | (simp only [h1, e108, e111]; done) | (simp only [h1, e108, e111]; rfl)) (GI.below hc) (hS.below hc)
                      refine StepsOkE.cons (StepOkE.other rfl fun y W ex hex hS hd K' hK => ?_) ?_
                      · skip
                        have e112 : y 112 = .agg #[.int .i64 (offOf (O : Int)), .int .i64 2, .int .i64 0, .string ⟨#[82]⟩, .string (fmt21 ((KD : Int).tmod 5) (O : Int) (P17.made DL (P25.sn S2))), .bool false, .int .i64 0, .int .i64 0, .int .i64 0, .int .i64 0, .int .i64 0, .int .i64 0, .int .i64 0] := (hd 16 rfl).val rfl rfl
                        clear hd
                        obtain ⟨N, hN, hel⟩ := hS.el
                        obtain ⟨k0, k1, k2, k3, k4, k5, k6, k7, k8, k9, k10, k11, k12, hb⟩ := thirteen hS.box
                        have r0 := (hb.cell 0).trans rfl
                        have r1 := (hb.cell 1).trans rfl
                        have r2 := (hb.cell 2).trans rfl
                        have r3 := (hb.cell 3).trans rfl
                        have r4 := (hb.cell 4).trans rfl
                        have r5 := (hb.cell 5).trans rfl
                        have r6 := (hb.cell 6).trans rfl
                        have r7 := (hb.cell 7).trans rfl
                        have r8 := (hb.cell 8).trans rfl
                        have r9 := (hb.cell 9).trans rfl
                        have r10 := (hb.cell 10).trans rfl
                        have r11 := (hb.cell 11).trans rfl
                        have r12 := (hb.cell 12).trans rfl
                        have s0 := hb.frozen 0
                        have s1 := hb.frozen 1
                        have s2 := hb.frozen 2
                        have s3 := hb.frozen 3
                        have s4 := hb.frozen 4
                        have s5 := hb.frozen 5
                        have s6 := hb.frozen 6
                        have s7 := hb.frozen 7
                        have s8 := hb.frozen 8
                        have s9 := hb.frozen 9
                        have s10 := hb.frozen 10
                        have s11 := hb.frozen 11
                        have s12 := hb.frozen 12
                        have HT := Lib.hid (And.intro (era_whole hb rfl (⟨offOf (O : Int), 2, 0, ⟨#[82]⟩, fmt21 ((KD : Int).tmod 5) (O : Int) (P17.made DL (P25.sn S2)), false, 0, 0, 0, 0, 0, 0, 0⟩ : EV)) (And.intro (GI.whole hb rfl (⟨offOf (O : Int), 2, 0, ⟨#[82]⟩, fmt21 ((KD : Int).tmod 5) (O : Int) (P17.made DL (P25.sn S2)), false, 0, 0, 0, 0, 0, 0, 0⟩ : EV)) (hel.whole HWI.out HEG.out.1 HEG.out.2.1 HEG.out.2.2 (⟨offOf (O : Int), 2, 0, ⟨#[82]⟩, fmt21 ((KD : Int).tmod 5) (O : Int) (P17.made DL (P25.sn S2)), false, 0, 0, 0, 0, 0, 0, 0⟩ : EV))))
                        have hle := hS.le
                        clear hb hel
                        go_simp
                        exact hK.out undef _ _ (by first | rfl | (simp only [e112]; done) | (simp only [e112]; rfl)) HT.out.2.1 ⟨⟨N, hN, HT.out.2.2⟩, ⟨_, rfl, HT.out.1⟩, by simpa using hle⟩ (show Blk _ eb 47 #[.int .i64 (offOf (O : Int)), .int .i64 2, .int .i64 0, .string ⟨#[82]⟩, .string (fmt21 ((KD : Int).tmod 5) (O : Int) (P17.made DL (P25.sn S2))), .bool false, .int .i64 0, .int .i64 0, .int .i64 0, .int .i64 0, .int .i64 0, .int .i64 0, .int .i64 0] from HT.out.1)
                      exact StepsOkE.nil
                  | false =>
                    by_cases g1 : C = 1
                    · have d1 : ((C : Int) == 1) = true := by rw [g1]; rfl
                      obtain ⟨F, hF⟩ : ∃ g, P25.g d.nums (m + 1 + 1 + 1 + 1) 4 = g := ⟨_, rfl⟩
                      have hF4 : (F : Int) < 4 := by have := P25.g_lt d.nums (m + 1 + 1 + 1 + 1) (m := 4) (by decide); omega
                      have HF := Lib.hid hF; have HG1' := Lib.hid g1
                      clear hF g1
                      go_wp2_with fail
                      refine (HEL5.out.bx.ask HD.out 4 4 rfl (by decide) (by have := HM.out; omega) F HF.out).mono ?_
                      rintro e Wf ⟨rfl, hbx, hcs⟩
                      have HEL6 := Lib.hid (HEL5.out.step HWI.out HWO.out hbx hcs)
                      have HEB6 := Lib.hid (hcs.box HEB.out (by have := HEG.out.1; have := HWI.out; omega))
                      clear hbx hcs
                      have k1 := (HEB6.out.cell 1).trans rfl; have k2 := (HEB6.out.cell 2).trans rfl; have f1 := HEB6.out.frozen 1; have f2 := HEB6.out.frozen 2
                      go_wp2_with fail
                      go_meet
                      refine ⟨_, _, era_fix HA.out HB.out HC.out HF.out (of_decide_eq_false HBS.out) HG1'.out, Lib.hid ⟨(HEL6.out.set_ (wj := wi) HWI.out HEG.out.1 HEG.out.2.1 HEG.out.2.2 1 (.int .i64 1)).set_ (wj := wi) HWI.out HEG.out.1 HEG.out.2.1 HEG.out.2.2 2 (.int .i64 ((1 + (F : Int)) * 1800)), ?_⟩⟩
                      have t1 := HEB6.out.set_ 1 (.int .i64 1)
                      exact t1.set_ 2 (.int .i64 ((1 + (F : Int)) * 1800))
                    · have d1 : ((C : Int) == 1) = false := by rw [beq_eq_false_iff_ne]; omega
                      have HG1' := Lib.hid g1
                      clear g1
                      go_wp2_with fail
                      go_meet
                      exact ⟨_, _, era_base HA.out HB.out HC.out (of_decide_eq_false HBS.out) HG1'.out, Lib.hid ⟨HEL5.out, HEB.out⟩⟩
                case rest =>
                  obtain ⟨e, m', hera, hcx⟩ := hcut
                  obtain ⟨Wg, hWg⟩ : ∃ x, x = wc := ⟨_, rfl⟩
                  subst hWg
                  have HERA := Lib.hid hera; have HEg := Lib.hid hcx.out.1; have HXg := Lib.hid hcx.out.2
                  have HEN := Lib.hid (show Es.length = q by have z := P25.eras_len d.nums d.dr k (n + 2) q; rw [HET.out] at z; exact z)
                  have o1 := (HEg.out.box.cell 1).trans rfl
                  have x0 := (HXg.out.cell 0).trans rfl; have x1 := (HXg.out.cell 1).trans rfl; have x2 := (HXg.out.cell 2).trans rfl; have x3 := (HXg.out.cell 3).trans rfl; have x4 := (HXg.out.cell 4).trans rfl; have x5 := (HXg.out.cell 5).trans rfl; have x6 := (HXg.out.cell 6).trans rfl; have x7 := (HXg.out.cell 7).trans rfl; have x8 := (HXg.out.cell 8).trans rfl; have x9 := (HXg.out.cell 9).trans rfl; have x10 := (HXg.out.cell 10).trans rfl; have x11 := (HXg.out.cell 11).trans rfl; have x12 := (HXg.out.cell 12).trans rfl
                  have al := (Below.refl Wg.heap.size Wg).alloc (Nat.le_refl _) (.cells #[.int .i64 e.off, .int .i64 e.kind, .int .i64 e.save, .string e.set, .string e.fmt, .bool e.ui, .int .i64 e.uy, .int .i64 e.um, .int .i64 e.dk, .int .i64 e.dw, .int .i64 e.dd, .int .i64 e.asec, .int .i64 e.ab] 47)
                  have HE5 := Lib.hid (HEg.out.below al)
                  have HNB := Lib.hid (Blk.new Wg 47 #[.int .i64 e.off, .int .i64 e.kind, .int .i64 e.save, .string e.set, .string e.fmt, .bool e.ui, .int .i64 e.uy, .int .i64 e.um, .int .i64 e.dk, .int .i64 e.dw, .int .i64 e.dd, .int .i64 e.asec, .int .i64 e.ab])
                  have HLE : Hid (Es.length ≤ 3) := Lib.hid (by have := HEN.out; have := HQT.out; omega)
                  have hsz : wi.heap.size ≤ (Wg.alloc (.cells #[.int .i64 e.off, .int .i64 e.kind, .int .i64 e.save, .string e.set, .string e.fmt, .bool e.ui, .int .i64 e.uy, .int .i64 e.um, .int .i64 e.dk, .int .i64 e.dw, .int .i64 e.dd, .int .i64 e.asec, .int .i64 e.ab] 47)).heap.size := Nat.le_trans HE5.out.kl.sz HE5.out.kl.le
                  have HSZ := Lib.hid hsz
                  obtain ⟨i2, hi2, hz0, hz1, hz2⟩ := info_parts infoEra
                  clear al hera hcx hsz
                  go_wp2_with (at_builtin; refine wpList_append_own _ rfl _ _ 37 rfl wi.heap.size 47 i2 _ 13 120 Tryd.underlying37 hi2 hz0 hz1 hz2 rfl (by decide) _ _ _ rfl HE5.out.row ⟨Wg.heap.size, 0, none⟩ 1 1 e.cells rfl rfl (blk_cells HNB.out) (one_era e) (by have := HLE.out; simp only [maxLen]; omega) (by have := HLE.out; omega) HSZ.out ?_)
                  intro v1 W6 hown hgr hne
                  obtain ⟨eA', ec', rfl⟩ := row_is hown
                  have HRZ := Lib.hid (show RowOf W6 wi.heap.size 47 13 EV.cells eA' ec' (Es ++ [e]) from by
                    unfold RowOf
                    rw [List.length_append, List.flatMap_append]
                    have z : ([e] : List EV).flatMap EV.cells = e.cells := by simp
                    rw [z]
                    exact hown)
                  have HE7 := Lib.hid (HE5.out.snoc HWI.out HWO.out hgr HRZ.out)
                  have hob := blk_other HE5.out.box HE5.out.row (by decide) hgr
                  have o2 := (hob.cell 1).trans rfl
                  have f2 := hob.frozen 1
                  clear hown hgr hne hob HE5 HNB HSZ o1 hi2 hz0 hz1 hz2 x0 x1 x2 x3 x4 x5 x6 x7 x8 x9 x10 x11 x12
                  go_wp2_with fail
                  go_roundw
                  case rel => exact ⟨q + 1, by have := HQT.out; omega, by go_num, m', eA', ec', Es ++ [e], HE7.out, by show (_ ++ [_], _) = _; rw [HET.out]; show (Es ++ [(P25.era d.nums d.dr k q m).1], (P25.era d.nums d.dr k q m).2) = _; rw [HERA.out]⟩
                  case measure => have := HQT.out; simp [intOf]; omega
            · have hqe : q = 1 + A2 := by omega
              have hqi : ¬ (q : Int) < 1 + (A2 : Int) := by omega
              have HQE := Lib.hid hqe
              have HEN := Lib.hid (show Es.length = 1 + A2 by have z := P25.eras_len d.nums d.dr k (n + 2) q; rw [HET.out] at z; exact z.trans hqe)
              obtain ⟨B, cap, hv, hB, hBl, hcap, _⟩ := own_form hel.row (by have := HEN.out; omega)
              injection hv with hv1 hv2 hv3
              subst hv1
              subst hv3
              have HBB := Lib.hid hB
              have hne : (Es.length : Int) - 1 = (A2 : Int) := by have := HEN.out; omega
              have hnl : (Es.length : Int) ≤ 4 := by have := HEN.out; omega
              have ha0 : (0 : Int) ≤ (A2 : Int) := by omega
              have sl := slice_first 37 47 (by rfl) (by rfl) (fun _ => ⟨_, rfl⟩) (some ⟨B, 0, none⟩) Es.length ec A2 (by have := HEN.out; omega)
              have o1 := (hel.box.cell 1).trans rfl
              have HML := Lib.hid (show m ≤ 1000 by have z := eras25_le d.nums d.dr k (n + 2) q; rw [HET.out] at z; simp at z; have := HN.out; omega)
              clear hel het hv2 hB hBl hcap hqt hqe
              go_wp2_with fail
              clear o1 sl hne
              go_loopw [13, 141] (fun s13 i W => ∃ p : Nat, p ≤ A2 ∧ i = .int .i64 p ∧ ∃ m2 E2 Y2, s13 = .int .i64 Y2 ∧ El w wi W d m2 wo.heap.size (P25.zn j) (some ⟨B, 0, none⟩) ec E2 ∧ P25.untTo d.nums Es m (1860 + (A1 : Int)) p = (E2, m2, Y2)) (fun _ i _ => A2 - (intOf i).toNat)
              case atStart => exact ⟨0, Nat.zero_le _, rfl, m, Es, 1860 + (A1 : Int), rfl, HEL.out, rfl⟩
              case round =>
                clear HEL
                obtain ⟨wu, hwu⟩ : ∃ x, x = wr := ⟨_, rfl⟩
                subst hwu
                obtain ⟨p, hp, rfl, m2, E2, Y2, rfl, hel, hut⟩ := hrel
                have HEL := Lib.hid hel; have HUT := Lib.hid hut
                have HE2 := Lib.hid (show E2.length = Es.length by have z := unt25_len d.nums Es m (1860 + (A1 : Int)) p; rw [hut] at z; exact z)
                by_cases hpt : p < A2
                · have hpi : (p : Int) < (A2 : Int) := by omega
                  have hp0 : (0 : Int) ≤ (p : Int) := by omega
                  have HPT := Lib.hid hpt
                  have HM2 := Lib.hid (show m2 ≤ 2000 by have z := unt25_le d.nums Es m (1860 + (A1 : Int)) p; rw [hut] at z; simp at z; have := HML.out; omega)
                  have hyr := unt25_year d.nums Es m (1860 + (A1 : Int)) p
                  rw [hut] at hyr
                  obtain ⟨hy1, hy2⟩ : 1860 ≤ Y2 ∧ Y2 ≤ 3000 := by have := hyr.1; have := hyr.2; simp only at *; omega
                  obtain ⟨x, hx⟩ : ∃ x, E2[p]? = some x := ⟨_, List.getElem?_eq_getElem (by have := HE2.out; have := HEN.out; omega)⟩
                  obtain ⟨F1, hF1⟩ : ∃ g, P25.g d.nums (m2 + 1) 40 = g := ⟨_, rfl⟩
                  obtain ⟨F2, hF2⟩ : ∃ g, P25.g d.nums (m2 + 1 + 1) 20 = g := ⟨_, rfl⟩
                  obtain ⟨F3, hF3⟩ : ∃ g, P25.g d.nums (m2 + 1 + 1 + 1) 49 = g := ⟨_, rfl⟩
                  obtain ⟨F4, hF4⟩ : ∃ g, P25.g d.nums (m2 + 1 + 1 + 1 + 1) 3 = g := ⟨_, rfl⟩
                  have b1 : (F1 : Int) < 40 := by have := P25.g_lt d.nums (m2 + 1) (m := 40) (by decide); omega
                  have b2 : (F2 : Int) < 20 := by have := P25.g_lt d.nums (m2 + 1 + 1) (m := 20) (by decide); omega
                  have b3 : (F3 : Int) < 49 := by have := P25.g_lt d.nums (m2 + 1 + 1 + 1) (m := 49) (by decide); omega
                  have b4 : (F4 : Int) < 3 := by have := P25.g_lt d.nums (m2 + 1 + 1 + 1 + 1) (m := 3) (by decide); omega
                  obtain ⟨Y3, hY3⟩ : ∃ Y3, Y2 + (1 + (F1 : Int)) = Y3 := ⟨_, rfl⟩
                  have HY3 := Lib.hid hY3
                  have hw6 : IntKind.i64.wrap (5 + (F2 : Int)) = 5 + (F2 : Int) := IntWalk.i64_in _ (by omega)
                  have hw10 : IntKind.i64.wrap ((F3 : Int) * 1800) = (F3 : Int) * 1800 := IntWalk.i64_in _ (by omega)
                  have HF1 := Lib.hid hF1; have HF2 := Lib.hid hF2; have HF3 := Lib.hid hF3; have HF4 := Lib.hid hF4; have HXP := Lib.hid hx
                  clear hel hut hpt hyr hx hF1 hF2 hF3 hF4
                  go_wp2_with fail
                  refine (HEL.out.bx.ask HD.out 40 40 rfl (by decide) (by have := HM2.out; omega) F1 HF1.out).mono ?_
                  rintro e Wv ⟨rfl, hbx, hcs⟩
                  have HELv := Lib.hid (HEL.out.step HWI.out HWO.out hbx hcs)
                  clear hbx hcs HEL
                  go_upto_region 33 with fail
                  refine wp_region_shapeE [(some 149, []), (some 150, [0]), (some 151, []), (some 152, []), (some 153, []), (some 154, [4]), (some 155, [5]), (some 156, [6]), (some 157, []), (some 158, [8, 5]), (some 159, [9]), (some 160, []), (some 161, [11, 9]), (some 162, [10, 12]), (some 163, [3, 7, 13]), (some 164, [1, 2, 0, 1, 2, 3, 4, 5, 6, 7, 8, 9, 10, 11, 12, 13, 14]), (some 165, [15, 0, 1, 2, 3, 4, 5, 6, 7, 8, 9, 10, 11, 12, 13, 14]), (none, [16, 14, 12, 0, 1, 2, 3, 4, 5, 6, 7, 8, 9, 10, 11, 12, 13, 14])] (fun y => { tmps := #[.agg #[.slice d.sA d.sets.length d.sc, .int .u8 d.zs, .int .u8 d.ls, .slice d.lA d.nums.length d.lc], .pointer (some ⟨w.heap.size, 0, none⟩), .pointer (some ⟨w.heap.size + 1, 0, none⟩), .pointer (some ⟨w.heap.size + 2, 0, none⟩), .func (.func 68) #[] #[.pointer (some ⟨w.heap.size + 2, 0, none⟩), .pointer (some ⟨w.heap.size, 0, none⟩)], .slice (some ⟨w.heap.size + 3, 0, none⟩) 2 2, .slice (some ⟨w.heap.size + 4, 0, none⟩) 3 3, .slice (some ⟨w.heap.size + 5, 0, none⟩) 3 3, .pointer (some ⟨w.heap.size + 6, 0, none⟩), .int .i64 k, u10, .int .i64 j, .pointer (some ⟨wo.heap.size, 0, none⟩), .int .i64 Y3, u14, u15, u16, u17, .int .i64 p, undef, undef, .func (.func 68) #[] #[.pointer (some ⟨w.heap.size + 2, 0, none⟩), .pointer (some ⟨w.heap.size, 0, none⟩)], .tuple #[.slice (some ⟨w.heap.size + 3, 0, none⟩) 2 2, .slice (some ⟨w.heap.size + 4, 0, none⟩) 3 3, .slice (some ⟨w.heap.size + 5, 0, none⟩) 3 3], .tuple #[.slice (some ⟨w.heap.size + 3, 0, none⟩) 2 2, .slice (some ⟨w.heap.size + 4, 0, none⟩) 3 3, .slice (some ⟨w.heap.size + 5, 0, none⟩) 3 3], .slice (some ⟨w.heap.size + 3, 0, none⟩) 2 2, .slice (some ⟨w.heap.size + 4, 0, none⟩) 3 3, .slice (some ⟨w.heap.size + 5, 0, none⟩) 3 3, .pointer (some ⟨w.heap.size, 0, none⟩), .slice d.sA d.sets.length d.sc, .int .i64 d.sets.length, .int .i64 k, .int .i64 k, .int .i64 k, .bool false, u34, u35, u36, u37, u38, u39, u40, u41, u42, u43, u44, u45, u46, u47, u48, u49, .pointer (some ⟨w.heap.size, 1, none⟩), .int .u8 d.zs, .int .u8 ZN, .int .i64 ZN, .int .i64 j, .bool true, .int .i64 j, .slice (some ⟨w.heap.size + 4, 0, none⟩) 3 3, .int .i64 j, .pointer (some ⟨w.heap.size + 4, j, none⟩), .string (P25.zn j), .agg #[.string (P25.zn j), .slice none 0 0], .func (.func 68) #[] #[.pointer (some ⟨w.heap.size + 2, 0, none⟩), .pointer (some ⟨w.heap.size, 0, none⟩)], .int .i64 A1, .int .i64 (1860 + A1), .func (.func 68) #[] #[.pointer (some ⟨w.heap.size + 2, 0, none⟩), .pointer (some ⟨w.heap.size, 0, none⟩)], .int .i64 A2, .int .i64 (1 + A2), .int .i64 q, .bool false, u70, u71, u72, u73, u74, u75, u76, u77, u78, u79, u80, u81, u82, u83, u84, u85, u86, u87, u88, u89, u90, u91, u92, u93, u94, u95, u96, u97, u98, u99, u100, u101, u102, u103, u104, u105, u106, u107, u108, u109, u110, u111, u112, u113, u114, u115, u116, u117, u118, u119, u120, u121, u122, u123, u124, u125, u126, u127, u128, u129, u130, u131, u132, .pointer (some ⟨wo.heap.size, 1, none⟩), .slice (some ⟨B, 0, none⟩) Es.length ec, .pointer (some ⟨wo.heap.size, 1, none⟩), .slice (some ⟨B, 0, none⟩) Es.length ec, .int .i64 Es.length, .int .i64 A2, .slice (some ⟨B, 0, none⟩) A2 ec, .int .i64 A2, .int .i64 p, .bool true, .int .i64 p, .int .i64 Y2, .func (.func 68) #[] #[.pointer (some ⟨w.heap.size + 2, 0, none⟩), .pointer (some ⟨w.heap.size, 0, none⟩)], .int .i64 F1, .int .i64 (1 + F1), .int .i64 Y3, y 149, y 150, y 151, y 152, y 153, y 154, y 155, y 156, y 157, y 158, y 159, y 160, y 161, y 162, y 163, y 164, y 165, u166, u167, u168, u169, u170, u171, u172, u173, undef, undef, undef, undef, undef, undef, undef, undef, undef, undef, undef, undef, undef, undef, undef, undef, undef, undef, undef, undef, undef, undef, undef, undef, undef, undef, undef, undef, undef, undef, undef, undef, undef, undef, undef, undef, undef, undef, undef, undef, undef, undef, undef, undef, undef, undef], defers := [] }) (fun k => match k with | 149 => u149 | 150 => u150 | 151 => u151 | 152 => u152 | 153 => u153 | 154 => u154 | 155 => u155 | 156 => u156 | 157 => u157 | 158 => u158 | 159 => u159 | 160 => u160 | 161 => u161 | 162 => u162 | 163 => u163 | 164 => u164 | 165 => u165 | _ => undef) (fun j => false) [.pointer (some ⟨wo.heap.size, 1, none⟩), .slice (some ⟨B, 0, none⟩) E2.length ec, .int .i64 p, .int .i64 Y3, .func (.func 68) #[] #[.pointer (some ⟨w.heap.size + 2, 0, none⟩), .pointer (some ⟨w.heap.size, 0, none⟩)], .int .i64 F2, .int .i64 (5 + (F2 : Int)), .agg #[.int .i64 1, .int .i64 0, .int .i64 (5 + (F2 : Int))], .func (.func 68) #[] #[.pointer (some ⟨w.heap.size + 2, 0, none⟩), .pointer (some ⟨w.heap.size, 0, none⟩)], .int .i64 F3, .int .i64 ((F3 : Int) * 1800), .func (.func 68) #[] #[.pointer (some ⟨w.heap.size + 2, 0, none⟩), .pointer (some ⟨w.heap.size, 0, none⟩)], .int .i64 F4, .agg #[.int .i64 ((F3 : Int) * 1800), .int .i64 F4], .agg #[.bool true, .int .i64 Y3, .int .i64 12, .int .i64 1, .int .i64 0, .int .i64 (5 + (F2 : Int)), .int .i64 ((F3 : Int) * 1800), .int .i64 F4], .pointer (some ⟨B, p * 13, none⟩), .pointer (some ⟨B, p * 13 + 5, none⟩), undef] (fun j y W => match j with  | _ => True) (fun j => match j with  | _ => []) (fun _ _ => True) (fun ex W => S4 w wi Wv W d (m2 + 1) wo.heap.size (P25.zn j) (some ⟨B, 0, none⟩) ec E2 (E2.set p { x with ui := true, uy := Y3, um := 12, dk := 1, dw := 0, dd := 5 + (F2 : Int), asec := (F3 : Int) * 1800, ab := (F4 : Int) }) (ex 5) (ex 9) (ex 12) (ex 17)) (by kernel_rfl) (by kernel_rfl) (by decide +kernel) rfl ⟨⟨_, E2, rfl, (fun _ => rfl), (fun z => by cases z), rfl, HELv.out.below (Below.refl _ _).drew⟩, Nat.le_refl _⟩ ?hput33 ?hloc33 ?hmono33 ?hstep33 ?hdone33
                  case hput33 =>
                    intro d hd y v
                    simp only [List.filterMap_cons, List.filterMap_nil, List.mem_cons, List.not_mem_nil, or_false] at hd
                    rcases hd with rfl | rfl | rfl | rfl | rfl | rfl | rfl | rfl | rfl | rfl | rfl | rfl | rfl | rfl | rfl | rfl | rfl
                    all_goals rfl
                  case hloc33 =>
                    intro j hj; cases hj
                  case hmono33 =>
                    intro j hj; cases hj
                  case hdone33 =>
                    intro y4 w4 hS hd
                    have hS' : S4 w wi Wv w4 d (m2 + 1) wo.heap.size (P25.zn j) (some ⟨B, 0, none⟩) ec E2 (E2.set p { x with ui := true, uy := Y3, um := 12, dk := 1, dw := 0, dd := 5 + (F2 : Int), asec := (F3 : Int) * 1800, ab := (F4 : Int) }) true true true true := hS
                    obtain ⟨N, E, h1, _, h3, h4, h5⟩ := hS'.el
                    rw [h3 rfl] at h5
                    subst h1
                    have HEz := Lib.hid h5
                    clear hd hS hS' h3 h4 h5
                    go_wp2_with fail
                    go_roundw
                    case rel => (refine ⟨_, _, _, _, _, _, _, _, _, _, _, _, _, _, _, _, _, _, _, _, _, _, _, _, _, _, _, _, ?relz, rfl⟩; exact ⟨p + 1, by have := HPT.out; omega, by go_num, m2 + 4, (E2.set p { x with ui := true, uy := Y3, um := 12, dk := 1, dw := 0, dd := 5 + (F2 : Int), asec := (F3 : Int) * 1800, ab := (F4 : Int) }), Y3, rfl, HEz.out, by rw [← HY3.out]; exact unt_step HUT.out HXP.out HF1.out HF2.out HF3.out HF4.out⟩)
                    case measure => have := HPT.out; simp [intOf]; omega
                  case hstep33 =>
                    refine StepsOkE.cons (StepOkE.known rfl fun y W ex hex hS hd K' hK => ?_) ?_
                    · skip
                      clear hd
                      go_simp
                      exact hK.out _ _ rfl trivial hS
                    refine StepsOkE.cons (StepOkE.known rfl fun y W ex hex hS hd K' hK => ?_) ?_
                    · skip
                      have e149 : y 149 = .pointer (some ⟨wo.heap.size, 1, none⟩) := (hd 0 rfl).val rfl rfl
                      clear hd
                      obtain ⟨N, E, h1, h2, h3, h4, h5⟩ := hS.el
                      have hc := (h5.box.cell 1).trans rfl
                      rw [h4] at hc
                      go_simp
                      exact hK.out _ _ (by first | rfl | (simp only [e149]; done) | (simp only [e149]; rfl)) trivial hS
                    refine StepsOkE.cons (StepOkE.known rfl fun y W ex hex hS hd K' hK => ?_) ?_
                    · skip
                      clear hd
                      go_simp
                      exact hK.out _ _ rfl trivial hS
                    refine StepsOkE.cons (StepOkE.known rfl fun y W ex hex hS hd K' hK => ?_) ?_
                    · skip
                      clear hd
                      go_simp
                      exact hK.out _ _ rfl trivial hS
                    refine StepsOkE.cons (StepOkE.known rfl fun y W ex hex hS hd K' hK => ?_) ?_
                    · skip
                      clear hd
                      go_simp
                      exact hK.out _ _ rfl trivial hS
                    refine StepsOkE.cons (StepOkE.known rfl fun y W ex hex hS hd K' hK => ?_) ?_
                    · skip
                      have e153 : y 153 = .func (.func 68) #[] #[.pointer (some ⟨w.heap.size + 2, 0, none⟩), .pointer (some ⟨w.heap.size, 0, none⟩)] := (hd 4 rfl).val rfl rfl
                      clear hd
                      have ha := hex.1
                      have hb : ex 9 = false := by
                        cases h : ex 9 with
                        | false => rfl
                        | true =>
                          have z := hex.2.2 9 h 5 (by decide)
                          rw [ha] at z; cases z
                      have hc : ex 12 = false := by
                        cases h : ex 12 with
                        | false => rfl
                        | true =>
                          have z := hex.2.2 12 h 9 (by decide)
                          rw [hb] at z; cases z
                      rw [ha, hb, hc] at hS
                      have hx := hS.num
                      go_simp
                      refine (hx.ask HD.out 20 20 rfl (by decide) (by have := HM2.out; simp; omega) F2 HF2.out).mono ?_
                      rintro e W' ⟨rfl, hbx, hcs⟩
                      go_wp2_with fail
                      have hz := hS.ask (a' := true) (b' := false) (c' := false) HWI.out HWO.out rfl hbx hcs
                      exact hK.out _ _ (by first | rfl | (simp only [e153]; done) | (simp only [e153]; rfl)) trivial (show S4 w wi Wv W' d (m2 + 1) wo.heap.size (P25.zn j) (some ⟨B, 0, none⟩) ec E2 (E2.set p { x with ui := true, uy := Y3, um := 12, dk := 1, dw := 0, dd := 5 + (F2 : Int), asec := (F3 : Int) * 1800, ab := (F4 : Int) }) true (ex 9) (ex 12) (ex 17) from by rw [hb, hc]; exact hz)
                    refine StepsOkE.cons (StepOkE.known rfl fun y W ex hex hS hd K' hK => ?_) ?_
                    · skip
                      have e154 : y 154 = .int .i64 F2 := (hd 5 rfl).val rfl rfl
                      clear hd
                      go_simp
                      exact hK.out _ _ (by first | rfl | (simp only [e154]; done) | (simp only [e154]; rfl)) trivial hS
                    refine StepsOkE.cons (StepOkE.known rfl fun y W ex hex hS hd K' hK => ?_) ?_
                    · skip
                      have e155 : y 155 = .int .i64 (5 + (F2 : Int)) := (hd 6 rfl).val rfl rfl
                      clear hd
                      go_simp
                      exact hK.out _ _ (by first | rfl | (simp only [e155]; done) | (simp only [e155]; rfl)) trivial hS
                    refine StepsOkE.cons (StepOkE.known rfl fun y W ex hex hS hd K' hK => ?_) ?_
                    · skip
                      clear hd
                      go_simp
                      exact hK.out _ _ rfl trivial hS
                    refine StepsOkE.cons (StepOkE.known rfl fun y W ex hex hS hd K' hK => ?_) ?_
                    · skip
                      have e157 : y 157 = .func (.func 68) #[] #[.pointer (some ⟨w.heap.size + 2, 0, none⟩), .pointer (some ⟨w.heap.size, 0, none⟩)] := (hd 8 rfl).val rfl rfl
                      clear hd
                      have ha : ex 5 = true := hex.2.1 5 (by decide)
                      have hb := hex.1
                      have hc : ex 12 = false := by
                        cases h : ex 12 with
                        | false => rfl
                        | true =>
                          have z := hex.2.2 12 h 9 (by decide)
                          rw [hb] at z; cases z
                      rw [ha, hb, hc] at hS
                      have hx := hS.num
                      go_simp
                      refine (hx.ask HD.out 49 49 rfl (by decide) (by have := HM2.out; simp; omega) F3 HF3.out).mono ?_
                      rintro e W' ⟨rfl, hbx, hcs⟩
                      go_wp2_with fail
                      have hz := hS.ask (a' := true) (b' := true) (c' := false) HWI.out HWO.out rfl hbx hcs
                      exact hK.out _ _ (by first | rfl | (simp only [e157]; done) | (simp only [e157]; rfl)) trivial (show S4 w wi Wv W' d (m2 + 1) wo.heap.size (P25.zn j) (some ⟨B, 0, none⟩) ec E2 (E2.set p { x with ui := true, uy := Y3, um := 12, dk := 1, dw := 0, dd := 5 + (F2 : Int), asec := (F3 : Int) * 1800, ab := (F4 : Int) }) (ex 5) true (ex 12) (ex 17) from by rw [ha, hc]; exact hz)
                    refine StepsOkE.cons (StepOkE.known rfl fun y W ex hex hS hd K' hK => ?_) ?_
                    · skip
                      have e158 : y 158 = .int .i64 F3 := (hd 9 rfl).val rfl rfl
                      clear hd
                      go_simp
                      exact hK.out _ _ (by first | rfl | (simp only [e158]; done) | (simp only [e158]; rfl)) trivial hS
                    refine StepsOkE.cons (StepOkE.known rfl fun y W ex hex hS hd K' hK => ?_) ?_
                    · skip
                      clear hd
                      go_simp
                      exact hK.out _ _ rfl trivial hS
                    refine StepsOkE.cons (StepOkE.known rfl fun y W ex hex hS hd K' hK => ?_) ?_
                    · skip
                      have e160 : y 160 = .func (.func 68) #[] #[.pointer (some ⟨w.heap.size + 2, 0, none⟩), .pointer (some ⟨w.heap.size, 0, none⟩)] := (hd 11 rfl).val rfl rfl
                      clear hd
                      have hb : ex 9 = true := hex.2.1 9 (by decide)
                      have ha : ex 5 = true := hex.2.2 9 hb 5 (by decide)
                      have hc := hex.1
                      rw [ha, hb, hc] at hS
                      have hx := hS.num
                      go_simp
                      refine (hx.ask HD.out 3 3 rfl (by decide) (by have := HM2.out; simp; omega) F4 HF4.out).mono ?_
                      rintro e W' ⟨rfl, hbx, hcs⟩
                      go_wp2_with fail
                      have hz := hS.ask (a' := true) (b' := true) (c' := true) HWI.out HWO.out rfl hbx hcs
                      exact hK.out _ _ (by first | rfl | (simp only [e160]; done) | (simp only [e160]; rfl)) trivial (show S4 w wi Wv W' d (m2 + 1) wo.heap.size (P25.zn j) (some ⟨B, 0, none⟩) ec E2 (E2.set p { x with ui := true, uy := Y3, um := 12, dk := 1, dw := 0, dd := 5 + (F2 : Int), asec := (F3 : Int) * 1800, ab := (F4 : Int) }) (ex 5) (ex 9) true (ex 17) from by rw [ha, hb]; exact hz)
                    refine StepsOkE.cons (StepOkE.known rfl fun y W ex hex hS hd K' hK => ?_) ?_
                    · skip
                      have e159 : y 159 = .int .i64 ((F3 : Int) * 1800) := (hd 10 rfl).val rfl rfl
                      have e161 : y 161 = .int .i64 F4 := (hd 12 rfl).val rfl rfl
                      clear hd
                      go_simp
                      exact hK.out _ _ (by first | rfl | (simp only [e159, e161]; done) | (simp only [e159, e161]; rfl)) trivial hS
                    refine StepsOkE.cons (StepOkE.known rfl fun y W ex hex hS hd K' hK => ?_) ?_
                    · skip
                      have e152 : y 152 = .int .i64 Y3 := (hd 3 rfl).val rfl rfl
                      have e156 : y 156 = .agg #[.int .i64 1, .int .i64 0, .int .i64 (5 + (F2 : Int))] := (hd 7 rfl).val rfl rfl
                      have e162 : y 162 = .agg #[.int .i64 ((F3 : Int) * 1800), .int .i64 F4] := (hd 13 rfl).val rfl rfl
                      clear hd
                      go_simp
                      exact hK.out _ _ (by first | rfl | (simp only [e152, e156, e162]; done) | (simp only [e152, e156, e162]; rfl)) trivial hS
                    refine StepsOkE.cons (StepOkE.known rfl fun y W ex hex hS hd K' hK => ?_) ?_
                    · skip
                      have e150 : y 150 = .slice (some ⟨B, 0, none⟩) E2.length ec := (hd 1 rfl).val rfl rfl
                      have e151 : y 151 = .int .i64 p := (hd 2 rfl).val rfl rfl
                      clear hd
                      have hpl : (p : Int) < (E2.length : Int) := by have := HE2.out; have := HEN.out; have := HPT.out; omega
                      go_simp
                      exact hK.out _ _ (by first | rfl | (simp only [e150, e151]; done) | (simp only [e150, e151]; rfl)) trivial hS
                    refine StepsOkE.cons (StepOkE.known rfl fun y W ex hex hS hd K' hK => ?_) ?_
                    · skip
                      have e164 : y 164 = .pointer (some ⟨B, p * 13, none⟩) := (hd 15 rfl).val rfl rfl
                      clear hd
                      go_simp
                      exact hK.out _ _ (by first | rfl | (simp only [e164]; done) | (simp only [e164]; rfl)) trivial hS
                    refine StepsOkE.cons (StepOkE.known rfl fun y W ex hex hS hd K' hK => ?_) ?_
                    · skip
                      have e165 : y 165 = .pointer (some ⟨B, p * 13 + 5, none⟩) := (hd 16 rfl).val rfl rfl
                      have e163 : y 163 = .agg #[.bool true, .int .i64 Y3, .int .i64 12, .int .i64 1, .int .i64 0, .int .i64 (5 + (F2 : Int)), .int .i64 ((F3 : Int) * 1800), .int .i64 F4] := (hd 14 rfl).val rfl rfl
                      clear hd
                      obtain ⟨N, E, h1, h2, h3, h4, h5⟩ := hS.el
                      have hs := hex.1
                      have hE := h2 hs
                      rw [hE] at h5
                      have HTH := Lib.hid (h5.there HXP.out)
                      have HT := Lib.hid (h5.unt2 HWI.out HXP.out Y3 (5 + (F2 : Int)) ((F3 : Int) * 1800) (F4 : Int))
                      have hle := hS.le
                      clear h5
                      rw [if_pos (by rfl)]
                      refine wp_store_mid (P := Tryd.prog) 45 _ _ rfl B (p * 13 + 5) (untC Y3 (5 + (F2 : Int)) ((F3 : Int) * 1800) (F4 : Int)).toArray (by first | exact e165 | (show y 165 = _; exact e165)) (by first | exact e163 | (show y 163 = _; exact e163)) HTH.out (by kernel_rfl) (all_oneCell_toArray (by simp [untC, Value.oneCell'])) ?_
                      exact hK.out _ _ rfl trivial (show S4 w wi Wv (W.setCells B (p * 13 + 5) (untC Y3 (5 + (F2 : Int)) ((F3 : Int) * 1800) (F4 : Int))) d (m2 + 1) wo.heap.size (P25.zn j) (some ⟨B, 0, none⟩) ec E2 (E2.set p { x with ui := true, uy := Y3, um := 12, dk := 1, dw := 0, dd := 5 + (F2 : Int), asec := (F3 : Int) * 1800, ab := (F4 : Int) }) (ex 5) (ex 9) (ex 12) true from ⟨⟨N, _, h1, (fun z => by cases z), (fun _ => rfl), by rw [List.length_set], HT.out⟩, by have q := size_setCells29 B (untC Y3 (5 + (F2 : Int)) ((F3 : Int) * 1800) (F4 : Int)) (p * 13 + 5) W; omega⟩)
                    exact StepsOkE.nil
                · have hpe : p = A2 := by omega
                  subst p
                  have HZ5 := Lib.hid (HZL.out.rowAt HG1.out HBI.out hel)
                  have o1 := (HZ5.out.2.2.1.cell 1).trans rfl
                  have x0 := (hel.box.cell 0).trans rfl
                  have x1 := (hel.box.cell 1).trans rfl
                  have al := (Below.refl wu.heap.size wu).alloc (Nat.le_refl _) (.cells #[.string (P25.zn j), .slice (some ⟨B, 0, none⟩) E2.length ec] 39)
                  have HE5 := Lib.hid (hel.below al)
                  have HNB := Lib.hid (Blk.new wu 39 #[.string (P25.zn j), .slice (some ⟨B, 0, none⟩) E2.length ec])
                  have HZ6 := Lib.hid (HZL.out.rowAt HG1.out HBI.out HE5.out)
                  have HYL : Hid (Y.length ≤ 3) := Lib.hid (by
                    have z := zones25_len d.nums d.dr k j
                    rw [HZT.out] at z
                    simp at z
                    have := HJT.out; omega)
                  have hsz : w1.heap.size ≤ (wu.alloc (.cells #[.string (P25.zn j), .slice (some ⟨B, 0, none⟩) E2.length ec] 39)).heap.size := by have h1 := HZL.out.kl.le; have h2 := HBZ.out; have h3 := HE5.out.kl.sz; have h4 := HE5.out.kl.le; omega
                  have HSZ := Lib.hid hsz
                  obtain ⟨i3, hi3, hz0, hz1, hz2⟩ := info_parts infoZone
                  clear al hel hut hsz hp hpt
                  go_wp2_with (at_builtin; refine wpList_append_own _ rfl _ _ 28 rfl w1.heap.size 39 i3 _ 2 40 Tryd.underlying28 hi3 hz0 hz1 hz2 rfl (by decide) _ _ _ rfl HZ6.out.1 ⟨wu.heap.size, 0, none⟩ 1 1 [.string (P25.zn j), .slice (some ⟨B, 0, none⟩) E2.length ec] rfl rfl (blk_cells HNB.out) (by simp [Value.oneCell']) (by have := HYL.out; simp only [maxLen]; omega) (by have := HYL.out; omega) HSZ.out ?_)
                  intro v1 W6 hown hgr hne
                  obtain ⟨yA', yc', rfl⟩ := row_is hown
                  have HRZ := Lib.hid (show RowOf W6 w1.heap.size 39 2 ZV.cells yA' yc' (Y ++ [⟨P25.zn j, some ⟨B, 0, none⟩, ec, E2⟩]) from by
                    unfold RowOf
                    rw [List.length_append, List.flatMap_append]
                    exact hown)
                  have HZ7 := Lib.hid (HZL.out.snoc HG1.out (Nat.le_of_lt HBZ.out) HBI.out HE5.out hgr HRZ.out)
                  have hob := blk_other HZ6.out.2.2.1 HZ6.out.1 (by decide) hgr
                  have o2 := (hob.cell 1).trans rfl
                  have f2 := hob.frozen 1
                  clear hown hgr hne hob HE5 HNB HSZ o1 x0 x1 hi3 hz0 hz1 hz2
                  go_wp2_with fail
                  go_roundw
                  case rel => exact ⟨j + 1, by have := HJT.out; omega, by go_num, m2, yA', yc', Y ++ ([⟨P25.zn j, some ⟨B, 0, none⟩, ec, E2⟩] : List ZV), HZ7.out, by rw [List.map_append]; exact zone_step HZT.out HA1.out HA2.out (by rw [← HQE.out]; exact HET.out) HUT.out⟩
                  case measure => have := HJT.out; simp [intOf]; omega
        · have hje : j = ZN := by omega
          subst j
          have HYZ := Lib.hid (show Y.length = ZN by
            have z := zones25_len d.nums d.dr k ZN
            rw [hzt] at z
            simpa using z)
          have HNN := Lib.hid (show n ≤ 400 by have q := zones25_le d.nums d.dr k ZN; rw [hzt] at q; simp at q; omega)
          have HLL0 := Lib.hid (show Ll w wo wo d n (.slice rA RR.length rc) (.slice yA Y.length yc) none 0 [] from ⟨hzl.bx, KL.refl _ _, hzl.own, World.ownsRow_nil ..⟩)
          have HWO := Lib.hid (show w.heap.size + 7 ≤ wo.heap.size from Nat.le_trans HG1.out hzl.kl.le)
          have HZ3 := Lib.hid (show ZN ≤ 3 by omega)
          have c2 := (hzl.bx.dx.cell 2).trans rfl
          have hl4 := HLM.out
          have hln0 : (0 : Int) ≤ (LN : Int) := by omega
          clear hzl hzt hj hjt
          go_wp2_with fail
          clear c2 hl4
          go_loopw [178] (fun i W => ∃ r : Nat, r ≤ LN ∧ i = .int .i64 r ∧ ∃ m kA kc K, Ll w wo W d m (.slice rA RR.length rc) (.slice yA Y.length yc) kA kc K ∧ P25.linksTo d.nums (Y.map fun z => z.name) n r = (K, m) ∧ (0 < r → 0 < Y.length)) (fun i _ => LN - (intOf i).toNat)
          case atStart => exact ⟨0, Nat.zero_le _, rfl, n, none, 0, [], HLL0.out, rfl, fun h => absurd h (by decide)⟩
          case round =>
            clear HLL0
            obtain ⟨wl, hwl⟩ : ∃ x, x = wr := ⟨_, rfl⟩
            subst hwl
            obtain ⟨r, hr, rfl, m, kA, kc, K, hll, hlk, hr0⟩ := hrel
            have HLL := Lib.hid hll; have HLK := Lib.hid hlk; have HRY := Lib.hid hr0
            have HKN := Lib.hid (show K.length = r by have z := links25_len d.nums (Y.map fun z => z.name) n r; rw [hlk] at z; exact z)
            have HMM := Lib.hid (show m ≤ 500 by have z := links25_le d.nums (Y.map fun z => z.name) n r; rw [hlk] at z; simp at z; have := HNN.out; omega)
            have o1 := (hll.own.cell 1).trans rfl
            by_cases hrt : r < LN
            · have hri : (r : Int) < (LN : Int) := by omega
              have hrz : (0 : Int) ≤ (r : Int) := by omega
              have hr3 : r < 3 := by omega
              have hr3i : (r : Int) < 3 := by omega
              have HRT := Lib.hid hrt
              by_cases hy0 : Y.length = 0
              · have hye : ((Y.length : Int) == 0) = true := by rw [hy0]; rfl
                have HFI := Lib.hid (links_is HZT.out (HMD.out) HZN.out HLK.out HRY.out (fun q => absurd q (by omega)))
                clear hlk hr0 hrt hr hy0
                have q0 := (hll.own.cell 0).trans rfl; have q2 := (hll.own.cell 2).trans rfl; have q3 := (hll.own.cell 3).trans rfl
                have f0 := hll.bx.rx.frozen 0; have f1 := hll.bx.rx.frozen 1; have f2 := hll.bx.rx.frozen 2; have f3 := hll.bx.rx.frozen 3
                have r0 := (hll.bx.rx.cell 0).trans rfl; have r1 := (hll.bx.rx.cell 1).trans rfl; have r2 := (hll.bx.rx.cell 2).trans rfl; have r3 := (hll.bx.rx.cell 3).trans rfl
                have HR4 := Lib.hid (GS.set4 hll.bx.rx (.slice rA RR.length rc) (.slice yA Y.length yc) (.slice kA K.length kc) (.slice none 0 0))
                have k0 := (HR4.out.2.cell 0).trans rfl; have k1 := (HR4.out.2.cell 1).trans rfl; have k2 := (HR4.out.2.cell 2).trans rfl; have k3 := (HR4.out.2.cell 3).trans rfl
                clear hll
                go_wp2_with fail
                refine bodyPost_ret (v := .agg #[.slice rA RR.length rc, .slice yA Y.length yc, .slice kA K.length kc, .slice none 0 0]) (by simp [results, Tryd.results38, go_sem, k0, k1, k2, k3]) rfl ?_
                refine ⟨⟨rA, rc, RR, yA, yc, Y, kA, kc, K, none, 0, []⟩, rfl, fun V hv => ?_, ⟨by show RR = _; rw [← HMD.out]; exact HRR.out.symm, HFI.out.1, HFI.out.2, rfl⟩, below_set4 HLL.out.bx.bel (by omega) _ _ _ _⟩
                have hg := HR4.out.1.trans hv
                obtain ⟨z1, z2, z3⟩ := HLL.out.rows HZL.out HG1.out
                have z0 := z3.row2 (fun g hq => by have q := World.ownsRow.lt HR1.out g hq; exact ⟨q.2, by simp; omega⟩) HR1.out
                exact ⟨(hg.row (by decide) z0).cellsIn len_rule, (hg.row (by decide) z1).cellsIn len_zone, (hg.row (by decide) HLL.out.krow).cellsIn len_link, CellsIn.nil _ _, fun z hz => (hg.row (by decide) (z2 z hz)).cellsIn len_era⟩
              · have hye : ((Y.length : Int) == 0) = false := by rw [beq_eq_false_iff_ne]; omega
                obtain ⟨yB, cap, hv, hB, hBl, hcap, _⟩ := own_form (HLL.out.rows HZL.out HG1.out).1 (by omega)
                injection hv with hv1 hv2 hv3
                subst hv1
                subst hv3
                obtain ⟨T, hT⟩ : ∃ g, P25.g d.nums (m + 1) Y.length = g := ⟨_, rfl⟩
                obtain ⟨F, hF⟩ : ∃ g, P25.g d.nums (m + 1 + 1) 2 = g := ⟨_, rfl⟩
                have hTY : T < Y.length := by have := P25.g_lt d.nums (m + 1) (m := Y.length) (by omega); omega
                have hTi : (T : Int) < (Y.length : Int) := by omega
                have hT0 : (0 : Int) ≤ (T : Int) := by omega
                have hF2 : F < 2 := by have := P25.g_lt d.nums (m + 1 + 1) (m := 2) (by decide); omega
                obtain ⟨nm, hnm⟩ : ∃ nm, (Y.map fun z => z.name)[T]? = some nm := ⟨_, List.getElem?_eq_getElem (by simpa using hTY)⟩
                have HT := Lib.hid (show P25.g d.nums (m + 1) (Y.map fun z => z.name).length = T by rw [List.length_map]; exact hT)
                have HF := Lib.hid hF; have HNM := Lib.hid hnm; have HYP := Lib.hid (show 1 ≤ Y.length ∧ Y.length ≤ 1000 by have := HYZ.out; have := HZ3.out; omega)
                have HTY := Lib.hid hT
                clear hlk hr0 hrt hr hy0 hv2 hB hBl hcap hT hF hnm hTY hll
                go_upto_region 41 with fail
                go_cut [20] (fun s20 wx => s20 = .string nm ∧ Hid (Ll w wo wx d (m + 1) (.slice rA RR.length rc) (.slice (some ⟨yB, 0, none⟩) Y.length yc) kA kc K))
                case first =>
                  refine wp_region_shapeE [(some 185, []), (some 186, [0]), (some 187, []), (some 188, []), (some 189, [3]), (some 190, [4]), (some 191, [2, 5]), (some 192, [1, 6]), (some 193, [7]), (some 194, [8]), (some 20, [9, 6, 0, 1, 2, 3, 4, 5, 6, 7, 8, 9])] (fun y => { tmps := #[.agg #[.slice d.sA d.sets.length d.sc, .int .u8 d.zs, .int .u8 d.ls, .slice d.lA d.nums.length d.lc], .pointer (some ⟨w.heap.size, 0, none⟩), .pointer (some ⟨w.heap.size + 1, 0, none⟩), .pointer (some ⟨w.heap.size + 2, 0, none⟩), .func (.func 68) #[] #[.pointer (some ⟨w.heap.size + 2, 0, none⟩), .pointer (some ⟨w.heap.size, 0, none⟩)], .slice (some ⟨w.heap.size + 3, 0, none⟩) 2 2, .slice (some ⟨w.heap.size + 4, 0, none⟩) 3 3, .slice (some ⟨w.heap.size + 5, 0, none⟩) 3 3, .pointer (some ⟨w.heap.size + 6, 0, none⟩), .int .i64 k, u10, u11, u12, u13, u14, u15, u16, u17, u18, .int .i64 r, y 20, .func (.func 68) #[] #[.pointer (some ⟨w.heap.size + 2, 0, none⟩), .pointer (some ⟨w.heap.size, 0, none⟩)], .tuple #[.slice (some ⟨w.heap.size + 3, 0, none⟩) 2 2, .slice (some ⟨w.heap.size + 4, 0, none⟩) 3 3, .slice (some ⟨w.heap.size + 5, 0, none⟩) 3 3], .tuple #[.slice (some ⟨w.heap.size + 3, 0, none⟩) 2 2, .slice (some ⟨w.heap.size + 4, 0, none⟩) 3 3, .slice (some ⟨w.heap.size + 5, 0, none⟩) 3 3], .slice (some ⟨w.heap.size + 3, 0, none⟩) 2 2, .slice (some ⟨w.heap.size + 4, 0, none⟩) 3 3, .slice (some ⟨w.heap.size + 5, 0, none⟩) 3 3, .pointer (some ⟨w.heap.size, 0, none⟩), .slice d.sA d.sets.length d.sc, .int .i64 d.sets.length, .int .i64 k, .int .i64 k, .int .i64 k, .bool false, u34, u35, u36, u37, u38, u39, u40, u41, u42, u43, u44, u45, u46, u47, u48, u49, .pointer (some ⟨w.heap.size, 1, none⟩), .int .u8 d.zs, .int .u8 ZN, .int .i64 ZN, .int .i64 ZN, .bool false, u56, u57, u58, u59, u60, u61, u62, u63, u64, u65, u66, u67, u68, u69, u70, u71, u72, u73, u74, u75, u76, u77, u78, u79, u80, u81, u82, u83, u84, u85, u86, u87, u88, u89, u90, u91, u92, u93, u94, u95, u96, u97, u98, u99, u100, u101, u102, u103, u104, u105, u106, u107, u108, u109, u110, u111, u112, u113, u114, u115, u116, u117, u118, u119, u120, u121, u122, u123, u124, u125, u126, u127, u128, u129, u130, u131, u132, u133, u134, u135, u136, u137, u138, u139, u140, u141, u142, u143, u144, u145, u146, u147, u148, u149, u150, u151, u152, u153, u154, u155, u156, u157, u158, u159, u160, u161, u162, u163, u164, u165, u166, u167, u168, u169, u170, u171, u172, u173, .pointer (some ⟨w.heap.size, 2, none⟩), .int .u8 d.ls, .int .u8 LN, .int .i64 LN, .int .i64 r, .bool true, .int .i64 r, .pointer (some ⟨w.heap.size + 6, 1, none⟩), .slice (some ⟨yB, 0, none⟩) Y.length yc, .int .i64 Y.length, .bool false, y 185, y 186, y 187, y 188, y 189, y 190, y 191, y 192, y 193, y 194, u195, u196, u197, u198, u199, u200, u201, u202, u203, u204, u205, u206, u207, u208, u209, u210, u211, u212, u213, u214, u215, u216, u217, u218, undef], defers := [] }) (fun k => match k with | 20 => u20 | 185 => u185 | 186 => u186 | 187 => u187 | 188 => u188 | 189 => u189 | 190 => u190 | 191 => u191 | 192 => u192 | 193 => u193 | 194 => u194 | _ => undef) (fun j => false) [.pointer (some ⟨w.heap.size + 6, 1, none⟩), .slice (some ⟨yB, 0, none⟩) Y.length yc, .func (.func 68) #[] #[.pointer (some ⟨w.heap.size + 2, 0, none⟩), .pointer (some ⟨w.heap.size, 0, none⟩)], .pointer (some ⟨w.heap.size + 6, 1, none⟩), .slice (some ⟨yB, 0, none⟩) Y.length yc, .int .i64 Y.length, .int .i64 T, .pointer (some ⟨yB, T * 2, none⟩), .pointer (some ⟨yB, T * 2, none⟩), .string nm, .string nm] (fun j y W => match j with  | _ => True) (fun j => match j with  | _ => []) (fun _ _ => True) (fun ex W => S5 w wo wl W d m (.slice rA RR.length rc) (.slice (some ⟨yB, 0, none⟩) Y.length yc) kA kc K (ex 6)) (by kernel_rfl) (by kernel_rfl) (by decide +kernel) rfl ⟨⟨_, rfl, HLL.out.below (Below.refl _ _).drew⟩, Nat.le_refl _⟩ ?hput41 ?hloc41 ?hmono41 ?hstep41 ?hdone41
                  case hput41 =>
                    intro d hd y v
                    simp only [List.filterMap_cons, List.filterMap_nil, List.mem_cons, List.not_mem_nil, or_false] at hd
                    rcases hd with rfl | rfl | rfl | rfl | rfl | rfl | rfl | rfl | rfl | rfl | rfl
                    all_goals rfl
                  case hloc41 =>
                    intro j hj; cases hj
                  case hmono41 =>
                    intro j hj; cases hj
                  case hdone41 =>
                    intro y5 w5 hS hd
                    have e20 : y5 20 = .string nm := (hd 10 (by decide)).val rfl rfl
                    have hS' : S5 w wo wl w5 d m (.slice rA RR.length rc) (.slice (some ⟨yB, 0, none⟩) Y.length yc) kA kc K true := hS
                    have HLb := Lib.hid hS'.all
                    clear hd hS hS'
                    first | go_meet | (go_wp2_with fail; go_meet)
                    exact ⟨e20, HLb⟩
                  case hstep41 =>
                    refine StepsOkE.cons (StepOkE.known rfl fun y W ex hex hS hd K' hK => ?_) ?_
                    · skip
                      clear hd
                      go_simp
                      exact hK.out _ _ rfl trivial hS
                    refine StepsOkE.cons (StepOkE.known rfl fun y W ex hex hS hd K' hK => ?_) ?_
                    · skip
                      have e185 : y 185 = .pointer (some ⟨w.heap.size + 6, 1, none⟩) := (hd 0 rfl).val rfl rfl
                      clear hd
                      obtain ⟨N, h1, h2⟩ := hS.el
                      have hc := (h2.own.cell 1).trans rfl
                      go_simp
                      exact hK.out _ _ (by first | rfl | (simp only [e185]; done) | (simp only [e185]; rfl)) trivial hS
                    refine StepsOkE.cons (StepOkE.known rfl fun y W ex hex hS hd K' hK => ?_) ?_
                    · skip
                      clear hd
                      go_simp
                      exact hK.out _ _ rfl trivial hS
                    refine StepsOkE.cons (StepOkE.known rfl fun y W ex hex hS hd K' hK => ?_) ?_
                    · skip
                      clear hd
                      go_simp
                      exact hK.out _ _ rfl trivial hS
                    refine StepsOkE.cons (StepOkE.known rfl fun y W ex hex hS hd K' hK => ?_) ?_
                    · skip
                      have e188 : y 188 = .pointer (some ⟨w.heap.size + 6, 1, none⟩) := (hd 3 rfl).val rfl rfl
                      clear hd
                      obtain ⟨N, h1, h2⟩ := hS.el
                      have hc := (h2.own.cell 1).trans rfl
                      go_simp
                      exact hK.out _ _ (by first | rfl | (simp only [e188]; done) | (simp only [e188]; rfl)) trivial hS
                    refine StepsOkE.cons (StepOkE.known rfl fun y W ex hex hS hd K' hK => ?_) ?_
                    · skip
                      have e189 : y 189 = .slice (some ⟨yB, 0, none⟩) Y.length yc := (hd 4 rfl).val rfl rfl
                      clear hd
                      go_simp
                      exact hK.out _ _ (by first | rfl | (simp only [e189]; done) | (simp only [e189]; rfl)) trivial hS
                    refine StepsOkE.cons (StepOkE.known rfl fun y W ex hex hS hd K' hK => ?_) ?_
                    · skip
                      have e187 : y 187 = .func (.func 68) #[] #[.pointer (some ⟨w.heap.size + 2, 0, none⟩), .pointer (some ⟨w.heap.size, 0, none⟩)] := (hd 2 rfl).val rfl rfl
                      have e190 : y 190 = .int .i64 Y.length := (hd 5 rfl).val rfl rfl
                      clear hd
                      have ha := hex.1
                      rw [ha] at hS
                      have hx := hS.one
                      go_simp
                      refine (hx.bx.ask HD.out Y.length (Y.length : Int) rfl HYP.out (by have := HMM.out; omega) T HTY.out).mono ?_
                      rintro e W' ⟨rfl, hbx, hcs⟩
                      go_wp2_with fail
                      exact hK.out _ _ (by first | rfl | (simp only [e187, e190]; done) | (simp only [e187, e190]; rfl)) trivial (show S5 w wo wl W' d m (.slice rA RR.length rc) (.slice (some ⟨yB, 0, none⟩) Y.length yc) kA kc K true from hS.at1 HWO.out hbx hcs)
                    refine StepsOkE.cons (StepOkE.known rfl fun y W ex hex hS hd K' hK => ?_) ?_
                    · skip
                      have e186 : y 186 = .slice (some ⟨yB, 0, none⟩) Y.length yc := (hd 1 rfl).val rfl rfl
                      have e191 : y 191 = .int .i64 T := (hd 6 rfl).val rfl rfl
                      clear hd
                      go_simp
                      exact hK.out _ _ (by first | rfl | (simp only [e186, e191]; done) | (simp only [e186, e191]; rfl)) trivial hS
                    refine StepsOkE.cons (StepOkE.known rfl fun y W ex hex hS hd K' hK => ?_) ?_
                    · skip
                      have e192 : y 192 = .pointer (some ⟨yB, T * 2, none⟩) := (hd 7 rfl).val rfl rfl
                      clear hd
                      go_simp
                      exact hK.out _ _ (by first | rfl | (simp only [e192]; done) | (simp only [e192]; rfl)) trivial hS
                    refine StepsOkE.cons (StepOkE.known rfl fun y W ex hex hS hd K' hK => ?_) ?_
                    · skip
                      have e193 : y 193 = .pointer (some ⟨yB, T * 2, none⟩) := (hd 8 rfl).val rfl rfl
                      clear hd
                      obtain ⟨N, h1, h2⟩ := hS.el
                      have hc := zone_name (h2.rows HZL.out HG1.out).1 HNM.out
                      go_simp
                      exact hK.out _ _ (by first | rfl | (simp only [e193]; done) | (simp only [e193]; rfl)) trivial hS
                    refine StepsOkE.cons (StepOkE.known rfl fun y W ex hex hS hd K' hK => ?_) ?_
                    · skip
                      have e194 : y 194 = .string nm := (hd 9 rfl).val rfl rfl
                      clear hd
                      go_simp
                      exact hK.out _ _ (by first | rfl | (simp only [e194]; done) | (simp only [e194]; rfl)) trivial hS
                    exact StepsOkE.nil
                case rest =>
                  obtain ⟨rfl, HL1⟩ := hcut
                  obtain ⟨W1, hW1⟩ : ∃ x, x = wc := ⟨_, rfl⟩
                  subst hW1
                  obtain ⟨B2, hB2⟩ : ∃ b, decide (0 < r ∧ F = 0) = b := ⟨_, rfl⟩
                  have HB2 := Lib.hid hB2
                  clear hB2
                  go_upto_region 42 with fail
                  go_cut [201] (fun s201 wx => s201 = .bool B2 ∧ Hid (Ll w wo wx d (if r = 0 then m + 1 else m + 2) (.slice rA RR.length rc) (.slice (some ⟨yB, 0, none⟩) Y.length yc) kA kc K))
                  case first =>
                    by_cases g1 : 0 < r
                    · have d1 : (0 : Int) < (r : Int) := by omega
                      have HG := Lib.hid g1
                      clear g1
                      by_cases g2 : F = 0
                      · have d2 : ((F : Int) == 0) = true := by rw [g2]; rfl
                        have HR := Lib.hid (show decide (0 < r ∧ F = 0) = true by rw [decide_eq_true_eq]; exact ⟨HG.out, g2⟩)
                        clear g2
                        go_wp2_with fail
                        refine (HL1.out.bx.ask HD.out 2 2 rfl (by decide) (by have := HMM.out; omega) F HF.out).mono ?_
                        rintro e Wc ⟨rfl, hbx, hcs⟩
                        have HL2 := Lib.hid (HL1.out.step HWO.out hbx hcs)
                        clear hbx hcs
                        go_wp2_with fail
                        go_meet
                        exact ⟨by rw [← HB2.out, HR.out], Lib.hid (by rw [if_neg (by have := HG.out; omega)]; exact HL2.out)⟩
                      · have d2 : ((F : Int) == 0) = false := by rw [beq_eq_false_iff_ne]; omega
                        have HR := Lib.hid (show decide (0 < r ∧ F = 0) = false by rw [decide_eq_false_iff_not]; exact fun z => g2 z.2)
                        clear g2
                        go_wp2_with fail
                        refine (HL1.out.bx.ask HD.out 2 2 rfl (by decide) (by have := HMM.out; omega) F HF.out).mono ?_
                        rintro e Wc ⟨rfl, hbx, hcs⟩
                        have HL2 := Lib.hid (HL1.out.step HWO.out hbx hcs)
                        clear hbx hcs
                        go_wp2_with fail
                        go_meet
                        exact ⟨by rw [← HB2.out, HR.out], Lib.hid (by rw [if_neg (by have := HG.out; omega)]; exact HL2.out)⟩
                    · have d1 : ¬ (0 : Int) < (r : Int) := by omega
                      have HR := Lib.hid (show decide (0 < r ∧ F = 0) = false by rw [decide_eq_false_iff_not]; exact fun z => g1 z.1)
                      have HG := Lib.hid (show r = 0 by omega)
                      clear g1
                      go_wp2_with fail
                      go_meet
                      exact ⟨by rw [← HB2.out, HR.out], Lib.hid (by rw [if_pos HG.out]; exact HL1.out)⟩
                  case rest =>
                    obtain ⟨rfl, HL2⟩ := hcut
                    obtain ⟨W2, hW2⟩ : ∃ x, x = wc := ⟨_, rfl⟩
                    subst hW2
                    clear HL1
                    go_upto_if 201 with fail
                    go_cut [20] (fun s20 wx => ∃ tg m', s20 = .string tg ∧ P25.link d.nums (Y.map fun z => z.name) r m = (⟨tg, P25.ln r⟩, m') ∧ Hid (Ll w wo wx d m' (.slice rA RR.length rc) (.slice (some ⟨yB, 0, none⟩) Y.length yc) kA kc K))
                    case first =>
                      cases B2 with
                      | true =>
                        have hp := of_decide_eq_true HB2.out
                        obtain ⟨q1, hq1⟩ : ∃ q1 : Nat, r - 1 = q1 := ⟨_, rfl⟩
                        have hsub : (r : Int) - 1 = (q1 : Int) := by omega
                        have hq3 : q1 < 3 := by omega
                        have hq3i : (q1 : Int) < 3 := by omega
                        have hq0 : (0 : Int) ≤ (q1 : Int) := by omega
                        have hc := (HL2.out.bx.s3.cell q1).trans (ln_at q1 hq3)
                        have HQ := Lib.hid hq1; have HP := Lib.hid hp
                        clear hp hq1
                        go_wp2_with fail
                        go_meet
                        refine ⟨P25.ln q1, m + 2, rfl, ?_, Lib.hid (by have z := HL2.out; rw [if_neg (by have := HP.out.1; omega)] at z; exact z)⟩
                        rw [← HQ.out]
                        exact link_back (by have := HP.out.1; omega) HF.out HP.out.2
                      | false =>
                        have HP := Lib.hid (of_decide_eq_false HB2.out)
                        go_wp2_with fail
                        go_meet
                        by_cases g0 : r = 0
                        · exact ⟨nm, m + 1, rfl, link_first g0 HT.out HNM.out, Lib.hid (by have z := HL2.out; rw [if_pos g0] at z; exact z)⟩
                        · exact ⟨nm, m + 2, rfl, link_zone g0 HT.out HF.out (fun q => HP.out ⟨by omega, q⟩) HNM.out, Lib.hid (by have z := HL2.out; rw [if_neg g0] at z; exact z)⟩
                    case rest =>
                      obtain ⟨tg, m', rfl, hlk2, HL3⟩ := hcut
                      obtain ⟨W3, hW3⟩ : ∃ x, x = wc := ⟨_, rfl⟩
                      subst hW3
                      have HLK2 := Lib.hid hlk2
                      have HLE3 := Lib.hid (show wo.heap.size ≤ W3.heap.size from HL3.out.kl.le)
                      have HZ0 : Hid (∀ K', (Value.slice kA K.length kc).ownBlock = some K' → K' < W3.heap.size) := Lib.hid fun K' hK => (World.ownsRow.lt HL3.out.krow K' hK).2
                      clear HL2 hlk2
                      go_upto_region 44 with fail
                      refine wp_region_shapeB [(some 207, []), (some 208, [0]), (some 209, []), (some 210, []), (some 211, []), (some 212, [3, 4]), (some 213, [5]), (some 214, [2, 6]), (some 215, [7]), (some 216, [1, 8]), (some 217, [0, 1, 2, 3, 4, 5, 6, 7, 8, 9]), (none, [10, 9, 9, 0, 1, 2, 3, 4, 5, 6, 7, 8, 9])] (fun y => { tmps := #[.agg #[.slice d.sA d.sets.length d.sc, .int .u8 d.zs, .int .u8 d.ls, .slice d.lA d.nums.length d.lc], .pointer (some ⟨w.heap.size, 0, none⟩), .pointer (some ⟨w.heap.size + 1, 0, none⟩), .pointer (some ⟨w.heap.size + 2, 0, none⟩), .func (.func 68) #[] #[.pointer (some ⟨w.heap.size + 2, 0, none⟩), .pointer (some ⟨w.heap.size, 0, none⟩)], .slice (some ⟨w.heap.size + 3, 0, none⟩) 2 2, .slice (some ⟨w.heap.size + 4, 0, none⟩) 3 3, .slice (some ⟨w.heap.size + 5, 0, none⟩) 3 3, .pointer (some ⟨w.heap.size + 6, 0, none⟩), .int .i64 k, u10, u11, u12, u13, u14, u15, u16, u17, u18, .int .i64 r, .string tg, .func (.func 68) #[] #[.pointer (some ⟨w.heap.size + 2, 0, none⟩), .pointer (some ⟨w.heap.size, 0, none⟩)], .tuple #[.slice (some ⟨w.heap.size + 3, 0, none⟩) 2 2, .slice (some ⟨w.heap.size + 4, 0, none⟩) 3 3, .slice (some ⟨w.heap.size + 5, 0, none⟩) 3 3], .tuple #[.slice (some ⟨w.heap.size + 3, 0, none⟩) 2 2, .slice (some ⟨w.heap.size + 4, 0, none⟩) 3 3, .slice (some ⟨w.heap.size + 5, 0, none⟩) 3 3], .slice (some ⟨w.heap.size + 3, 0, none⟩) 2 2, .slice (some ⟨w.heap.size + 4, 0, none⟩) 3 3, .slice (some ⟨w.heap.size + 5, 0, none⟩) 3 3, .pointer (some ⟨w.heap.size, 0, none⟩), .slice d.sA d.sets.length d.sc, .int .i64 d.sets.length, .int .i64 k, .int .i64 k, .int .i64 k, .bool false, u34, u35, u36, u37, u38, u39, u40, u41, u42, u43, u44, u45, u46, u47, u48, u49, .pointer (some ⟨w.heap.size, 1, none⟩), .int .u8 d.zs, .int .u8 ZN, .int .i64 ZN, .int .i64 ZN, .bool false, u56, u57, u58, u59, u60, u61, u62, u63, u64, u65, u66, u67, u68, u69, u70, u71, u72, u73, u74, u75, u76, u77, u78, u79, u80, u81, u82, u83, u84, u85, u86, u87, u88, u89, u90, u91, u92, u93, u94, u95, u96, u97, u98, u99, u100, u101, u102, u103, u104, u105, u106, u107, u108, u109, u110, u111, u112, u113, u114, u115, u116, u117, u118, u119, u120, u121, u122, u123, u124, u125, u126, u127, u128, u129, u130, u131, u132, u133, u134, u135, u136, u137, u138, u139, u140, u141, u142, u143, u144, u145, u146, u147, u148, u149, u150, u151, u152, u153, u154, u155, u156, u157, u158, u159, u160, u161, u162, u163, u164, u165, u166, u167, u168, u169, u170, u171, u172, u173, .pointer (some ⟨w.heap.size, 2, none⟩), .int .u8 d.ls, .int .u8 LN, .int .i64 LN, .int .i64 r, u179, u180, u181, u182, u183, u184, u185, u186, u187, u188, u189, u190, u191, u192, u193, u194, u195, u196, u197, u198, u199, u200, u201, u202, u203, u204, u205, u206, y 207, y 208, y 209, y 210, y 211, y 212, y 213, y 214, y 215, y 216, y 217, u218, undef], defers := [] }) (fun k => match k with | 207 => u207 | 208 => u208 | 209 => u209 | 210 => u210 | 211 => u211 | 212 => u212 | 213 => u213 | 214 => u214 | 215 => u215 | 216 => u216 | 217 => u217 | _ => undef) (fun j => j == 8 || j == 9 || j == 11) [.pointer (some ⟨w.heap.size + 6, 2, none⟩), .slice kA K.length kc, .string tg, .slice (some ⟨w.heap.size + 5, 0, none⟩) 3 3, .int .i64 r, .pointer (some ⟨w.heap.size + 5, r, none⟩), .string (P25.ln r), .agg #[.string tg, .string (P25.ln r)], undef, undef, .pointer (some ⟨w.heap.size + 6, 2, none⟩), undef] (fun j y W => match j with | 8 => ∃ g : Nat, y 215 = .slice (some ⟨g, 0, none⟩) 1 1 ∧ W3.heap.size ≤ g ∧ Blk W g 94 #[.string tg, .string (P25.ln r)] | 9 => ∃ (kA' : Option Addr) (kc' : Nat), y 216 = .slice kA' (K.length + 1) kc' ∧ RowOf W wo.heap.size 94 2 KV.cells kA' kc' (K ++ [⟨tg, P25.ln r⟩]) | 11 => ∃ (kA' : Option Addr) (kc' : Nat), RowOf W wo.heap.size 94 2 KV.cells kA' kc' (K ++ [⟨tg, P25.ln r⟩]) ∧ Blk W (w.heap.size + 6) 32 #[.slice rA RR.length rc, .slice (some ⟨yB, 0, none⟩) Y.length yc, .slice kA' (K.length + 1) kc', .slice none 0 0] | _ => True) (fun j => match j with | 8 => [215] | 9 => [216] | 11 => [] | _ => []) 9 (fun b => GB 32 94 W3.heap.size b) (fun b W => Lr w wo W3 W d m' (.slice rA RR.length rc) (.slice (some ⟨yB, 0, none⟩) Y.length yc) kA kc K b) (by kernel_rfl) (by kernel_rfl) (by decide +kernel) rfl ((Lr.of HL3.out).below (Below.refl _ _).drew) ?hput44 ?hloc44 ?hmono44 ?hstep44 ?hdone44
                      case hput44 =>
                        intro d hd y v
                        simp only [List.filterMap_cons, List.filterMap_nil, List.mem_cons, List.not_mem_nil, or_false] at hd
                        rcases hd with rfl | rfl | rfl | rfl | rfl | rfl | rfl | rfl | rfl | rfl | rfl
                        all_goals rfl
                      case hloc44 =>
                        intro j hj y y' W hk hx
                        have hj' : j = 8 ∨ j = 9 ∨ j = 11 := by simpa [or_assoc] using hj
                        rcases hj' with rfl | rfl | rfl
                        · simp only [List.forall_mem_cons, List.not_mem_nil, false_imp_iff, implies_true, and_true] at hk
                          show _
                          simpa only [hk] using hx
                        · simp only [List.forall_mem_cons, List.not_mem_nil, false_imp_iff, implies_true, and_true] at hk
                          show _
                          simpa only [hk] using hx
                        · skip
                          exact hx
                      case hmono44 =>
                        intro j hj hlast b hbq y W W' hg hx
                        have hj' : j = 8 ∨ j = 9 ∨ j = 11 := by simpa [or_assoc] using hj
                        rcases hj' with rfl | rfl | rfl
                        · obtain ⟨g, h1, h2, h3⟩ := hx; exact ⟨g, h1, h2, hg.far g _ _ (by decide) (.inr (.inl h2)) h3⟩
                        · obtain ⟨kA', kc', h1, h2⟩ := hx; have hb1 := hbq rfl; subst hb1; exact ⟨kA', kc', h1, hg.rowA (by decide) (.inr (.inr rfl)) h2⟩
                        · exact absurd hlast (by decide)
                      case hdone44 =>
                        intro y6 w6 hS hd
                        have x11 : (fun (y : Nat → Value) (W : World) => ∃ (kA' : Option Addr) (kc' : Nat), RowOf W wo.heap.size 94 2 KV.cells kA' kc' (K ++ [⟨tg, P25.ln r⟩]) ∧ Blk W (w.heap.size + 6) 32 #[.slice rA RR.length rc, .slice (some ⟨yB, 0, none⟩) Y.length yc, .slice kA' (K.length + 1) kc', .slice none 0 0]) y6 w6 := (hd 11 (by decide)).ex rfl
                        obtain ⟨kA', kc', h1, h2⟩ := x11
                        have HLz := Lib.hid (show Ll w wo w6 d m' (.slice rA RR.length rc) (.slice (some ⟨yB, 0, none⟩) Y.length yc) kA' kc' (K ++ [⟨tg, P25.ln r⟩]) from ⟨hS.bx, hS.kl, by rw [List.length_append]; exact h2, h1⟩)
                        clear hd hS h1 h2
                        go_wp2_with fail
                        go_roundw
                        case rel => (refine ⟨_, _, _, _, _, _, _, _, _, _, _, _, _, _, _, _, _, _, _, _, _, _, _, _, _, _, _, _, _, _, _, _, _, _, _, _, _, _, _, _, _, _, _, ?relk, rfl⟩; exact ⟨r + 1, by have := HRT.out; omega, by go_num, m', kA', kc', K ++ [⟨tg, P25.ln r⟩], HLz.out, link_step HLK.out HLK2.out, fun _ => by have := HYP.out.1; omega⟩)
                        case measure => have := HRT.out; simp [intOf]; omega
                      case hstep44 =>
                        refine StepsOkB.cons (StepOkB.known rfl fun y W b hbq hS hd K' hK => ?_) ?_
                        · skip
                          clear hd
                          go_simp
                          exact hK.out _ _ rfl (GB.refl _ _ _ _ _) hS.or
                        refine StepsOkB.cons (StepOkB.known rfl fun y W b hbq hS hd K' hK => ?_) ?_
                        · skip
                          have e207 : y 207 = .pointer (some ⟨w.heap.size + 6, 2, none⟩) := (hd 0 rfl).val rfl rfl
                          clear hd
                          have hb1 := hbq.1 (.inr rfl)
                          subst hb1
                          obtain ⟨v, hv, hv2⟩ := hS.own
                          obtain rfl := hv2 rfl
                          have hc := (hv.cell 2).trans rfl
                          go_simp
                          exact hK.out _ _ (by first | rfl | (simp only [e207]; done) | (simp only [e207]; rfl)) (GB.refl _ _ _ _ _) hS.or
                        refine StepsOkB.cons (StepOkB.known rfl fun y W b hbq hS hd K' hK => ?_) ?_
                        · skip
                          clear hd
                          go_simp
                          exact hK.out _ _ rfl (GB.refl _ _ _ _ _) hS.or
                        refine StepsOkB.cons (StepOkB.known rfl fun y W b hbq hS hd K' hK => ?_) ?_
                        · skip
                          clear hd
                          go_simp
                          exact hK.out _ _ rfl (GB.refl _ _ _ _ _) hS.or
                        refine StepsOkB.cons (StepOkB.known rfl fun y W b hbq hS hd K' hK => ?_) ?_
                        · skip
                          clear hd
                          go_simp
                          exact hK.out _ _ rfl (GB.refl _ _ _ _ _) hS.or
                        refine StepsOkB.cons (StepOkB.known rfl fun y W b hbq hS hd K' hK => ?_) ?_
                        · skip
                          have e210 : y 210 = .slice (some ⟨w.heap.size + 5, 0, none⟩) 3 3 := (hd 3 rfl).val rfl rfl
                          have e211 : y 211 = .int .i64 r := (hd 4 rfl).val rfl rfl
                          clear hd
                          go_simp
                          exact hK.out _ _ (by first | rfl | (simp only [e210, e211]; done) | (simp only [e210, e211]; rfl)) (GB.refl _ _ _ _ _) hS.or
                        refine StepsOkB.cons (StepOkB.known rfl fun y W b hbq hS hd K' hK => ?_) ?_
                        · skip
                          have e212 : y 212 = .pointer (some ⟨w.heap.size + 5, r, none⟩) := (hd 5 rfl).val rfl rfl
                          clear hd
                          have hc := (hS.bx.s3.cell r).trans (ln_at r hr3)
                          go_simp
                          exact hK.out _ _ (by first | rfl | (simp only [e212]; done) | (simp only [e212]; rfl)) (GB.refl _ _ _ _ _) hS.or
                        refine StepsOkB.cons (StepOkB.known rfl fun y W b hbq hS hd K' hK => ?_) ?_
                        · skip
                          have e209 : y 209 = .string tg := (hd 2 rfl).val rfl rfl
                          have e213 : y 213 = .string (P25.ln r) := (hd 6 rfl).val rfl rfl
                          clear hd
                          go_simp
                          exact hK.out _ _ (by first | rfl | (simp only [e209, e213]; done) | (simp only [e209, e213]; rfl)) (GB.refl _ _ _ _ _) hS.or
                        refine StepsOkB.cons (StepOkB.other rfl fun y W b hbq hS hd K' hK => ?_) ?_
                        · skip
                          have e214 : y 214 = .agg #[.string tg, .string (P25.ln r)] := (hd 7 rfl).val rfl rfl
                          clear hd
                          have hle := hS.le
                          have hal := (Below.refl W.heap.size W).alloc (Nat.le_refl _) (.cells #[.string tg, .string (P25.ln r)] 94)
                          have HG := Lib.hid (And.intro (GB.below (B := 32) (T := 94) (N := W3.heap.size) b hal) (And.intro (hS.below hal) (Blk.new W 94 #[.string tg, .string (P25.ln r)])))
                          clear hal
                          go_simp
                          exact hK.out _ _ _ (by first | rfl | (simp only [e214]; done) | (simp only [e214]; rfl)) HG.out.1 HG.out.2.1.or (show ∃ g : Nat, _ = Value.slice (some ⟨g, 0, none⟩) 1 1 ∧ W3.heap.size ≤ g ∧ Blk _ g 94 #[.string tg, .string (P25.ln r)] from ⟨W.heap.size, rfl, hle, HG.out.2.2⟩)
                        refine StepsOkB.cons (StepOkB.other rfl fun y W b hbq hS hd K' hK => ?_) ?_
                        · skip
                          have e208 : y 208 = .slice kA K.length kc := (hd 1 rfl).val rfl rfl
                          have x8 : (fun (y : Nat → Value) (W : World) => ∃ g : Nat, y 215 = .slice (some ⟨g, 0, none⟩) 1 1 ∧ W3.heap.size ≤ g ∧ Blk W g 94 #[.string tg, .string (P25.ln r)]) y W := (hd 8 rfl).ex rfl
                          clear hd
                          have hb1 := hbq.1 (.inl rfl)
                          subst hb1
                          obtain ⟨g, h1, hg3, hblk⟩ := x8
                          have hle := hS.le
                          obtain ⟨hz, hbw⟩ := hS.ahead rfl
                          obtain ⟨i1, hi, hz0, hz1, hz2⟩ := info_parts infoLink
                          refine step_append_own (by rfl) _ _ 29 (by rfl) wo.heap.size 94 i1 _ 2 32 Tryd.underlying29 hi hz0 hz1 hz2 rfl (by decide) (.slice kA K.length kc) K.length (K.flatMap KV.cells) (by first | rfl | (simp only [e208]; rfl)) hz ⟨g, 0, none⟩ 1 1 [.string tg, .string (P25.ln r)] (by first | rfl | (simp only [h1]; rfl)) rfl (blk_cells hblk) (by simp [Value.oneCell']) (by have := HKN.out; simp only [maxLen]; omega) (by have := HKN.out; omega) (Nat.le_trans HLE3.out hle) ?_
                          intro v1 w6 hown hgr
                          obtain ⟨kA', kc', rfl⟩ := row_is hown
                          have hG := GB.grown (B := 32) (by decide) hz HZ0.out hgr
                          exact hK.out _ _ _ rfl hG (hS.grown HWO.out hz hgr) (show ∃ (kA'' : Option Addr) (kc'' : Nat), _ = Value.slice kA'' (K.length + 1) kc'' ∧ RowOf _ wo.heap.size 94 2 KV.cells kA'' kc'' (K ++ [⟨tg, P25.ln r⟩]) from ⟨kA', kc', rfl, by unfold RowOf; rw [List.length_append, List.flatMap_append, List.flatMap_singleton]; exact hown⟩)
                        refine StepsOkB.cons (StepOkB.known rfl fun y W b hbq hS hd K' hK => ?_) ?_
                        · skip
                          clear hd
                          go_simp
                          exact hK.out _ _ rfl (GB.refl _ _ _ _ _) hS.or
                        refine StepsOkB.cons (StepOkB.other rfl fun y W b hbq hS hd K' hK => ?_) ?_
                        · skip
                          have e217 : y 217 = .pointer (some ⟨w.heap.size + 6, 2, none⟩) := (hd 10 rfl).val rfl rfl
                          have x9 : (fun (y : Nat → Value) (W : World) => ∃ (kA' : Option Addr) (kc' : Nat), y 216 = .slice kA' (K.length + 1) kc' ∧ RowOf W wo.heap.size 94 2 KV.cells kA' kc' (K ++ [⟨tg, P25.ln r⟩])) y W := (hd 9 rfl).ex rfl
                          clear hd
                          have hb1 := hbq.2 rfl
                          subst hb1
                          obtain ⟨kA', kc', h1, h2⟩ := x9
                          obtain ⟨v, hv, _⟩ := hS.own
                          have k2 := (hv.cell 2).trans rfl
                          have f2 := hv.frozen 2
                          have t1 := hv.set_ 2 (.slice kA' (K.length + 1) kc')
                          have q1 := GB.set_ (T := 94) (N := W3.heap.size) true hv 2 (.slice kA' (K.length + 1) kc')
                          have hs' := hS.set1 hv (.slice kA' (K.length + 1) kc')
                          have HH := Lib.hid (And.intro t1 (And.intro q1 hs'))
                          clear t1 q1 hs'
                          go_simp
                          exact hK.out undef _ _ (by first | rfl | (simp only [h1, e217]; done) | (simp only [h1, e217]; rfl)) HH.out.2.1 HH.out.2.2 (show ∃ (kA' : Option Addr) (kc' : Nat), RowOf _ wo.heap.size 94 2 KV.cells kA' kc' (K ++ [⟨tg, P25.ln r⟩]) ∧ Blk _ (w.heap.size + 6) 32 #[.slice rA RR.length rc, .slice (some ⟨yB, 0, none⟩) Y.length yc, .slice kA' (K.length + 1) kc', .slice none 0 0] from ⟨kA', kc', HH.out.2.1.rowA (by decide) (.inr (.inr rfl)) h2, HH.out.1⟩)
                        exact StepsOkB.nil
            · obtain rfl : r = LN := by omega
              have HFI := Lib.hid (links_is HZT.out (HMD.out) HZN.out HLK.out HRY.out (fun _ => HLN.out))
              clear hlk hr0 hrt hr
              have q0 := (hll.own.cell 0).trans rfl; have q2 := (hll.own.cell 2).trans rfl; have q3 := (hll.own.cell 3).trans rfl
              have f0 := hll.bx.rx.frozen 0; have f1 := hll.bx.rx.frozen 1; have f2 := hll.bx.rx.frozen 2; have f3 := hll.bx.rx.frozen 3
              have r0 := (hll.bx.rx.cell 0).trans rfl; have r1 := (hll.bx.rx.cell 1).trans rfl; have r2 := (hll.bx.rx.cell 2).trans rfl; have r3 := (hll.bx.rx.cell 3).trans rfl
              have HR4 := Lib.hid (GS.set4 hll.bx.rx (.slice rA RR.length rc) (.slice yA Y.length yc) (.slice kA K.length kc) (.slice none 0 0))
              have k0 := (HR4.out.2.cell 0).trans rfl; have k1 := (HR4.out.2.cell 1).trans rfl; have k2 := (HR4.out.2.cell 2).trans rfl; have k3 := (HR4.out.2.cell 3).trans rfl
              clear hll
              go_wp2_with fail
              refine bodyPost_ret (v := .agg #[.slice rA RR.length rc, .slice yA Y.length yc, .slice kA K.length kc, .slice none 0 0]) (by simp [results, Tryd.results38, go_sem, k0, k1, k2, k3]) rfl ?_
              refine ⟨⟨rA, rc, RR, yA, yc, Y, kA, kc, K, none, 0, []⟩, rfl, fun V hv => ?_, ⟨by show RR = _; rw [← HMD.out]; exact HRR.out.symm, HFI.out.1, HFI.out.2, rfl⟩, below_set4 HLL.out.bx.bel (by omega) _ _ _ _⟩
              have hg := HR4.out.1.trans hv
              obtain ⟨z1, z2, z3⟩ := HLL.out.rows HZL.out HG1.out
              have z0 := z3.row2 (fun g hq => by have q := World.ownsRow.lt HR1.out g hq; exact ⟨q.2, by simp; omega⟩) HR1.out
              exact ⟨(hg.row (by decide) z0).cellsIn len_rule, (hg.row (by decide) z1).cellsIn len_zone, (hg.row (by decide) HLL.out.krow).cellsIn len_link, CellsIn.nil _ _, fun z hz => (hg.row (by decide) (z2 z hz)).cellsIn len_era⟩
    
end Go.Proofs.YtlideagcmhlkeaaDoor

/- What the rows' list of variables, and the world's shape, give the walks of chapters 21 and 24. -/
namespace Go.Proofs.YtlideagcmhlkeaaDoor
open Go.RowKit
set_option linter.unusedVariables false

theorem tSyn : (Tryd.prog.globals[3]?).map (·.type) = some 161 := by kernel_rfl
theorem cErr : Tryd.prog.cellsOf 219 = 1 := by kernel_rfl
theorem cStr : Tryd.prog.cellsOf 9 = 1 := by kernel_rfl
theorem starErr : "*" ++ "errors.errorString" = "*errors.errorString" := by decide
theorem rowErr (u : TypeId) (h : Tryd.prog.typeName? 3 u = some "*errors.errorString") : u = 217 := by
  exact typeName_ptr_named (nm := "errors.errorString") (by rw [starErr]; kernel_rfl) (by kernel_rfl) (by decide) u (by rw [starErr]; exact h)
theorem vars21_of {W : World} {rest : List (String × DataW Unit)} (h4 : laidMet Tryd.prog (("strconv.ErrSyntax", Rows.laid_strconv_ErrSyntax) :: rest) W) (hsh : W.ShapedOpen Tryd.prog) : Vars21 W := by
  obtain ⟨a, s, hs, _, _, _⟩ := laid_sentinel h4 gSyn tSyn Tryd.underlying161 rowErr Tryd.underlying217 Tryd.underlying219 rfl rfl Tryd.underlying9 cErr cStr
  have lt : ∀ {g : Nat} {n : String} {cs : Array Value}, Tryd.prog.globalNamed n = some g → W.var? Tryd.prog n = some cs → g < W.heap.size := by
    intro g n cs hg hv
    unfold World.var? at hv
    simp only [hg, Option.bind_some] at hv
    rcases Nat.lt_or_ge g W.heap.size with q | q
    · exact q
    · rw [Array.getElem?_eq_none q] at hv; cases hv
  have hm := Tryd.laysM145.s1_3 W hsh
  have hlt : 1 < W.heap.size := by
    obtain ⟨m, hm⟩ := hm
    rcases Nat.lt_or_ge 1 W.heap.size with q | q
    · exact q
    · exfalso
      have hm' : W.cell? ⟨1, 0, none⟩ = some (.int .i64 m) := hm
      unfold World.cell? at hm'
      rw [Array.getElem?_eq_none q] at hm'
      cases hm'
  exact ⟨⟨⟨_, _, hs⟩, lt gSyn hs⟩, hm, hlt⟩
/-- four other variables stand ahead of it in the row's list -/
theorem vars21_of_laid {W : World} {a b c d : String × DataW Unit} {rest : List (String × DataW Unit)} (h : laidMet Tryd.prog (a :: b :: c :: d :: ("strconv.ErrSyntax", Rows.laid_strconv_ErrSyntax) :: rest) W) (hsh : W.ShapedOpen Tryd.prog) : Vars21 W := by
  exact vars21_of h.tail.tail.tail.tail hsh
end Go.Proofs.YtlideagcmhlkeaaDoor
