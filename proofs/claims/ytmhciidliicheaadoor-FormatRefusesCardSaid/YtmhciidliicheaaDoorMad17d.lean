/- The walk of Draft.Made (chapter 17): the rules that a draft makes. -/
import Derived.Test.YtmhciidliicheaaDoorMad17c
import Derived.ArgAppend
import Derived.Laws.OwnMore
namespace Go.Proofs.YtmhciidliicheaaDoor
open Go.RowKit Go.Lib
set_option linter.unusedVariables false

def r17 (L : List RV) : List Value := L.flatMap RV.cells
theorem r17_app (L M : List RV) : r17 (L ++ M) = r17 L ++ r17 M := by unfold r17; rw [List.flatMap_append]
theorem r17_len : ∀ L : List RV, (r17 L).length = L.length * 11
  | [] => rfl
  | a :: L => by
    have := r17_len L
    unfold r17 at this ⊢
    rw [List.flatMap_cons, List.length_append, this, List.length_cons]
    show 11 + _ = _
    omega
theorem r17_name (nm : ByteArray) : ∀ (L : List RV) (k : Nat) (r : RV), L[k]? = some r → r17 (L.set k (P17.named nm r)) = (r17 L).set (k * 11) (.string nm)
  | [], k, r, h => by simp at h
  | a :: L, 0, r, h => by
    rw [List.getElem?_cons_zero] at h
    injection h with h
    subst h
    rfl
  | a :: L, k + 1, r, h => by
    rw [List.getElem?_cons_succ] at h
    have ih := r17_name nm L k r h
    show a.cells ++ r17 (L.set k _) = (a.cells ++ r17 L).set ((k + 1) * 11) _
    rw [ih, List.set_append_right _ _ (by show 11 ≤ _; omega)]
    congr 2
    show _ = (k + 1) * 11 - 11
    omega
theorem flat17 : ∀ (L : List RV) (k : Nat) (r : RV), L[k]? = some r → (r17 L)[k * 11]? = some (.string r.name)
  | [], k, r, h => by simp at h
  | a :: L, 0, r, h => by
    rw [List.getElem?_cons_zero] at h
    injection h with h
    subst h
    rfl
  | a :: L, k + 1, r, h => by
    rw [List.getElem?_cons_succ] at h
    show (a.cells ++ r17 L)[(k + 1) * 11]? = _
    rw [List.getElem?_append_right (by show 11 ≤ _; omega)]
    have ih := flat17 L k r h
    rw [show (k + 1) * 11 - a.cells.length = k * 11 from by show (k + 1) * 11 - 11 = k * 11; omega]
    exact ih
/-- the rules of which the first k have their name -/
def mix17 (nm : ByteArray) (L : List RV) (k : Nat) : List RV := (L.take k).map (P17.named nm) ++ L.drop k
theorem mix_zero (nm : ByteArray) (L : List RV) : mix17 nm L 0 = L := by unfold mix17; simp
theorem mix_all (nm : ByteArray) (L : List RV) : mix17 nm L L.length = L.map (P17.named nm) := by unfold mix17; simp
theorem mix_at (nm : ByteArray) (L : List RV) (k : Nat) (r : RV) (h : L[k]? = some r) : (mix17 nm L k)[k]? = some r := by
  have hk := (List.getElem?_eq_some_iff.mp h).1
  unfold mix17
  rw [List.getElem?_append_right (by rw [List.length_map, List.length_take]; omega), List.length_map, List.length_take, List.getElem?_drop]
  rw [show k + (k - min k L.length) = k by omega]
  exact h
theorem mix_succ (nm : ByteArray) (L : List RV) (k : Nat) (r : RV) (h : L[k]? = some r) : mix17 nm L (k + 1) = (mix17 nm L k).set k (P17.named nm r) := by
  have hk := (List.getElem?_eq_some_iff.mp h).1
  have hl : ((L.take k).map (P17.named nm)).length = k := by rw [List.length_map, List.length_take]; omega
  unfold mix17
  rw [List.set_append_right _ _ (by omega), hl, Nat.sub_self, List.take_add_one, h, List.map_append, List.append_assoc]
  congr 1
  rw [List.drop_eq_getElem_cons hk, (List.getElem?_eq_some_iff.mp h).2]
  rfl
theorem infoR17 : (Tryd.prog.info? 38).map (fun i => (i.zero, i.size, i.bytes)) = some (some (.agg #[.string ⟨#[]⟩, .int .i64 0, .int .i64 0, .int .i64 0, .int .i64 0, .int .i64 0, .int .i64 0, .int .i64 0, .int .i64 0, .int .i64 0, .string ⟨#[]⟩]), 11, 104) := by kernel_rfl
theorem cells_one (r : RV) : ∀ u ∈ r.cells, u.oneCell' = true := by
  intro u hu
  unfold RV.cells at hu
  simp only [List.mem_cons, List.not_mem_nil, or_false] at hu
  rcases hu with rfl | rfl | rfl | rfl | rfl | rfl | rfl | rfl | rfl | rfl | rfl <;> rfl
theorem cells_one2 (r s : RV) : ∀ u ∈ r.cells ++ s.cells, u.oneCell' = true := by
  intro u hu
  rcases List.mem_append.1 hu with h | h
  · exact cells_one r u h
  · exact cells_one s u h
theorem sv_at (k : Nat) (h : k < 5) : (#[.int .i64 3600, .int .i64 3600, .int .i64 1800, .int .i64 7200, .int .i64 (-3600)] : Array Value)[k]? = some (.int .i64 (P17.svOf k)) := by
  match k, h with
  | 0, _ | 1, _ | 2, _ | 3, _ | 4, _ => rfl
set_option maxRecDepth 100000 in
set_option maxHeartbeats 16000000 in
theorem made17_any (A : Option Addr) (c : Nat) (D : List Int) (nm : ByteArray) (w : World) (hD : Dr w A D) :
    Calls Tryd.prog 14 #[.slice A D.length c, .string nm] w fun e w' => (∃ v, e = .returned v ∧ w'.ownsRow w.heap.size 38 11 v (P17.made D nm).length (r17 (P17.made D nm))) ∧ Below w.heap.size w w' := by
  have a0 : Hid (∀ W, Below w.heap.size w W → Calls Tryd.prog 47 #[.slice A D.length c, .int .i64 0, .int .i64 5] W fun e w' => e = .returned (.int .i64 (P17.at_ D 0 5 : Int)) ∧ w' = W) := fun W h => at17_at A c D 0 5 0 rfl W (by decide) (by decide) (hD.below h)
  have a1 : Hid (∀ W, Below w.heap.size w W → Calls Tryd.prog 47 #[.slice A D.length c, .int .i64 1, .int .i64 80] W fun e w' => e = .returned (.int .i64 (P17.at_ D 1 80 : Int)) ∧ w' = W) := fun W h => at17_at A c D 1 80 1 rfl W (by decide) (by decide) (hD.below h)
  have a2 : Hid (∀ W, Below w.heap.size w W → Calls Tryd.prog 47 #[.slice A D.length c, .int .i64 2, .int .i64 3] W fun e w' => e = .returned (.int .i64 (P17.at_ D 2 3 : Int)) ∧ w' = W) := fun W h => at17_at A c D 2 3 2 rfl W (by decide) (by decide) (hD.below h)
  have a3 : Hid (∀ W, Below w.heap.size w W → Calls Tryd.prog 47 #[.slice A D.length c, .int .i64 3, .int .i64 28] W fun e w' => e = .returned (.int .i64 (P17.at_ D 3 28 : Int)) ∧ w' = W) := fun W h => at17_at A c D 3 28 3 rfl W (by decide) (by decide) (hD.below h)
  have a5 : Hid (∀ W, Below w.heap.size w W → Calls Tryd.prog 47 #[.slice A D.length c, .int .i64 5, .int .i64 2] W fun e w' => e = .returned (.int .i64 (P17.at_ D 5 2 : Int)) ∧ w' = W) := fun W h => at17_at A c D 5 2 5 rfl W (by decide) (by decide) (hD.below h)
  have a6 : Hid (∀ W, Below w.heap.size w W → Calls Tryd.prog 47 #[.slice A D.length c, .int .i64 6, .int .i64 12] W fun e w' => e = .returned (.int .i64 (P17.at_ D 6 12 : Int)) ∧ w' = W) := fun W h => at17_at A c D 6 12 6 rfl W (by decide) (by decide) (hD.below h)
  have a8 : Hid (∀ W, Below w.heap.size w W → Calls Tryd.prog 47 #[.slice A D.length c, .int .i64 8, .int .i64 5] W fun e w' => e = .returned (.int .i64 (P17.at_ D 8 5 : Int)) ∧ w' = W) := fun W h => at17_at A c D 8 5 8 rfl W (by decide) (by decide) (hD.below h)
  have a9 : Hid (∀ W, Below w.heap.size w W → Calls Tryd.prog 47 #[.slice A D.length c, .int .i64 9, .int .i64 6] W fun e w' => e = .returned (.int .i64 (P17.at_ D 9 6 : Int)) ∧ w' = W) := fun W h => at17_at A c D 9 6 9 rfl W (by decide) (by decide) (hD.below h)
  have a10 : Hid (∀ W, Below w.heap.size w W → Calls Tryd.prog 47 #[.slice A D.length c, .int .i64 10, .int .i64 3] W fun e w' => e = .returned (.int .i64 (P17.at_ D 10 3 : Int)) ∧ w' = W) := fun W h => at17_at A c D 10 3 10 rfl W (by decide) (by decide) (hD.below h)
  have ck : Hid (∀ W, Below w.heap.size w W → Calls Tryd.prog 48 #[.slice A D.length c, .int .i64 4] W fun e w' => e = .returned (.agg #[.int .i64 ((P17.at_ D 4 49 : Int) * 1800), .int .i64 (P17.at_ D 5 3 : Int)]) ∧ Below W.heap.size W w') := fun W h => clock17_any A c D 4 4 rfl W (by decide) (hD.below h)
  have p7 : Hid (∀ F T V W, Below w.heap.size w W → Calls Tryd.prog 49 #[.slice A D.length c, .int .i64 7, .int .i64 F, .int .i64 T, .int .i64 V] W fun e w' => (∃ g, e = .returned (.slice (some ⟨g, 0, none⟩) 2 2) ∧ W.heap.size ≤ g ∧ Blk w' g 38 ((P17.pairA D 7 F T V).cells ++ (P17.pairB D 7 F T V).cells).toArray) ∧ Below W.heap.size W w') := fun F T V W h => pair17_any A c D 7 7 rfl F T V W (by decide) (hD.below h)
  have p11 : Hid (∀ F T V W, Below w.heap.size w W → Calls Tryd.prog 49 #[.slice A D.length c, .int .i64 11, .int .i64 F, .int .i64 T, .int .i64 V] W fun e w' => (∃ g, e = .returned (.slice (some ⟨g, 0, none⟩) 2 2) ∧ W.heap.size ≤ g ∧ Blk w' g 38 ((P17.pairA D 11 F T V).cells ++ (P17.pairB D 11 F T V).cells).toArray) ∧ Below W.heap.size W w') := fun F T V W h => pair17_any A c D 11 11 rfl F T V W (by decide) (hD.below h)
  have l0 := P17.at_lt D 0 (show 0 < 5 by decide)
  have l1 := P17.at_lt D 1 (show 0 < 80 by decide)
  have l2 := P17.at_lt D 2 (show 0 < 3 by decide)
  have l3 := P17.at_lt D 3 (show 0 < 28 by decide)
  have l5 := P17.at_lt D 5 (show 0 < 2 by decide)
  have l6 := P17.at_lt D 6 (show 0 < 12 by decide)
  have l8 := P17.at_lt D 8 (show 0 < 5 by decide)
  have l9 := P17.at_lt D 9 (show 0 < 6 by decide)
  have l10 := P17.at_lt D 10 (show 0 < 3 by decide)
  have hk0 := sv_at _ l0
  have hV : P17.svOf (P17.at_ D 0 5) = P17.sv D := rfl
  rw [hV] at hk0
  have hp1 : (P17.at_ D 2 3 = 0 ∧ P17.part1 D = [P17.oneR D] ∧ P17.from1 D = P17.from0 D + 1) ∨ (¬ P17.at_ D 2 3 = 0 ∧ P17.part1 D = [] ∧ P17.from1 D = P17.from0 D) := by
    unfold P17.part1 P17.from1
    by_cases h : P17.at_ D 2 3 = 0
    · exact .inl ⟨h, if_pos h, if_pos h⟩
    · exact .inr ⟨h, if_neg h, if_neg h⟩
  have hp2 : (P17.at_ D 5 2 = 0 ∧ P17.part2 D = P17.pair D 7 (P17.from1 D) (P17.to1 D) (P17.sv D) ∧ P17.from2 D = P17.to1 D + 1 + (P17.at_ D 8 5 : Int)) ∨ (¬ P17.at_ D 5 2 = 0 ∧ P17.part2 D = [] ∧ P17.from2 D = P17.from1 D) := by
    unfold P17.part2 P17.from2
    by_cases h : P17.at_ D 5 2 = 0
    · exact .inl ⟨h, if_pos h, if_pos h⟩
    · exact .inr ⟨h, if_neg h, if_neg h⟩
  have hp3 : (P17.at_ D 10 3 = 0 ∧ P17.to2 D = P17.from2 D + (P17.at_ D 9 6 : Int)) ∨ (¬ P17.at_ D 10 3 = 0 ∧ P17.to2 D = 1048576) := by
    unfold P17.to2
    by_cases h : P17.at_ D 10 3 = 0
    · exact .inl ⟨h, if_pos h⟩
    · exact .inr ⟨h, if_neg h⟩
  have hf0 : P17.from0 D = 1900 + (P17.at_ D 1 80 : Int) := rfl
  have ht1 : P17.to1 D = P17.from1 D + (P17.at_ D 6 12 : Int) := rfl
  have h1R : P17.oneR D = ⟨⟨#[]⟩, P17.from0 D, P17.from0 D, 6, 1, 0, 1 + (P17.at_ D 3 28 : Int), (P17.at_ D 4 49 : Int) * 1800, (P17.at_ D 5 3 : Int), 0, ⟨#[83]⟩⟩ := rfl
  have hraw : P17.raw D = P17.part1 D ++ P17.part2 D ++ P17.pair D 11 (P17.from2 D) (P17.to2 D) (P17.sv D) := rfl
  have hmade : P17.made D nm = (P17.raw D).map (P17.named nm) := rfl
  have h5 := (P17.raw_good D).2.1
  have h2 := (P17.raw_good D).1
  have hpr : ∀ i F T V, P17.pair D i F T V = [P17.pairA D i F T V, P17.pairB D i F T V] := fun _ _ _ _ => rfl
  rw [hmade]
  clear hmade hV
  have HR := Lib.hid hraw
  have HP := Lib.hid hpr
  have H1 := Lib.hid h1R
  clear hraw hpr h1R
  generalize P17.raw D = RW at *
  generalize P17.part1 D = R1 at *
  generalize P17.part2 D = R2 at *
  generalize P17.from0 D = F0 at *
  generalize P17.from1 D = F1 at *
  generalize P17.from2 D = F2 at *
  generalize P17.to1 D = T1 at *
  generalize P17.to2 D = T2 at *
  generalize P17.sv D = SV at *
  generalize P17.at_ D 0 5 = n0 at *
  generalize P17.at_ D 1 80 = n1 at *
  generalize P17.at_ D 2 3 = n2 at *
  generalize P17.at_ D 3 28 = n3 at *
  generalize P17.at_ D 5 2 = n5 at *
  generalize P17.at_ D 6 12 = n6 at *
  generalize P17.at_ D 8 5 = n8 at *
  generalize P17.at_ D 9 6 = n9 at *
  generalize P17.at_ D 10 3 = n10 at *
  generalize (P17.at_ D 4 49 : Int) * 1800 = C1 at *
  generalize (P17.at_ D 5 3 : Int) = C2 at *
  generalize D.length = N at *
  have i0 : (n0 : Int) < 5 := by omega
  have i1 : (n1 : Int) < 80 := by omega
  have i2 : (n2 : Int) < 3 := by omega
  have i3 : (n3 : Int) < 28 := by omega
  have i5 : (n5 : Int) < 2 := by omega
  have i6 : (n6 : Int) < 12 := by omega
  have i8 : (n8 : Int) < 5 := by omega
  have i9 : (n9 : Int) < 6 := by omega
  have i10 : (n10 : Int) < 3 := by omega
  have HL := Lib.hid (And.intro h2 h5)
  clear h2 h5 hD l0 l1 l2 l3 l5 l6 l8 l9 l10
  have F0b : 1900 ≤ F0 ∧ F0 ≤ 1980 := by omega
  have F1b : 1900 ≤ F1 ∧ F1 ≤ 1981 := by rcases hp1 with ⟨_, _, h⟩ | ⟨_, _, h⟩ <;> omega
  have T1b : 1900 ≤ T1 ∧ T1 ≤ 1993 := by omega
  have F2b : 1900 ≤ F2 ∧ F2 ≤ 2000 := by rcases hp2 with ⟨_, _, h⟩ | ⟨_, _, h⟩ <;> omega
  obtain ⟨F0x, F0y⟩ := F0b
  obtain ⟨F1x, F1y⟩ := F1b
  obtain ⟨T1x, T1y⟩ := T1b
  obtain ⟨F2x, F2y⟩ := F2b
  obtain ⟨i0', hi, hz0, hz1, hz2⟩ := info_parts infoR17
  have hb0 := (Below.refl w.heap.size w).alloc (Nat.le_refl _) (.cells #[.int .i64 3600, .int .i64 3600, .int .i64 1800, .int .i64 7200, .int .i64 (-3600)] 2)
  have hA0 := Blk.new w 2 #[.int .i64 3600, .int .i64 3600, .int .i64 1800, .int .i64 7200, .int .i64 (-3600)]
  have k0 := (hA0.cell n0).trans hk0
  have hO0 : (w.alloc (.cells #[.int .i64 3600, .int .i64 3600, .int .i64 1800, .int .i64 7200, .int .i64 (-3600)] 2)).ownsRow w.heap.size 38 11 (.slice none 0 0) 0 [] := ⟨rfl, .inl ⟨rfl, rfl⟩⟩
  clear hA0 hk0
  go_enter Tryd.func14, Tryd.ntmps14
  have HF0 := Lib.hid hf0.symm
  have HT1 := Lib.hid ht1.symm
  clear hf0 ht1
  go_wp2_with fail
  refine (a0.out _ hb0).mono ?_
  rintro e wq ⟨rfl, rfl⟩
  go_wp2_with fail
  refine (a1.out _ hb0).mono ?_
  rintro e wq ⟨rfl, rfl⟩
  go_wp2_with fail
  rw [HF0.out]
  generalize w.alloc (.cells #[.int .i64 3600, .int .i64 3600, .int .i64 1800, .int .i64 7200, .int .i64 (-3600)] 2) = W1 at *
  refine (a2.out _ hb0).mono ?_
  rintro e wq ⟨rfl, rfl⟩
  go_upto_if 21 with fail
  go_cut [6, 7] (fun s6 s7 wx => s6 = .int .i64 F1 ∧ wx.ownsRow w.heap.size 38 11 s7 R1.length (r17 R1) ∧ Below w.heap.size w wx)
  case first =>
    rcases hp1 with ⟨z, rfl, rfl⟩ | ⟨z, rfl, rfl⟩
    · subst z
      have HW : Hid (r17 [P17.oneR D] = [.string ⟨#[]⟩, .int .i64 F0, .int .i64 F0, .int .i64 6, .int .i64 1, .int .i64 0, .int .i64 (1 + (n3 : Int)), .int .i64 C1, .int .i64 C2, .int .i64 0, .string ⟨#[83]⟩]) := Lib.hid (by rw [H1.out]; rfl)
      clear HR HP H1 HL hp2 hp3 p7 p11 a5 a6 a8 a9 a10
      go_wp2_with fail
      refine (a3.out _ hb0).mono ?_
      rintro e wq ⟨rfl, rfl⟩
      go_wp2_with fail
      refine (ck.out _ hb0).mono ?_
      rintro e W2 ⟨rfl, hc⟩
      have hb2 := hb0.trans (hc.mono hb0.size)
      have hO2 := own_below hO0 hc
      have HO := Lib.hid (hO2.alloc (.cells #[.string ⟨#[]⟩, .int .i64 F0, .int .i64 F0, .int .i64 6, .int .i64 1, .int .i64 0, .int .i64 (1 + (n3 : Int)), .int .i64 C1, .int .i64 C2, .int .i64 0, .string ⟨#[83]⟩] 38))
      have HB := Lib.hid (hb2.alloc hb2.size (.cells #[.string ⟨#[]⟩, .int .i64 F0, .int .i64 F0, .int .i64 6, .int .i64 1, .int .i64 0, .int .i64 (1 + (n3 : Int)), .int .i64 C1, .int .i64 C2, .int .i64 0, .string ⟨#[83]⟩] 38))
      have HN := Lib.hid (Blk.new W2 38 #[.string ⟨#[]⟩, .int .i64 F0, .int .i64 F0, .int .i64 6, .int .i64 1, .int .i64 0, .int .i64 (1 + (n3 : Int)), .int .i64 C1, .int .i64 C2, .int .i64 0, .string ⟨#[83]⟩])
      clear hO2 hb2 hc hb0 hO0 a3 ck a0 a1 a2
      go_wp2_with (at_builtin; refine wpList_append_own _ rfl _ _ 24 rfl w.heap.size 38 i0' (.agg #[.string ⟨#[]⟩, .int .i64 0, .int .i64 0, .int .i64 0, .int .i64 0, .int .i64 0, .int .i64 0, .int .i64 0, .int .i64 0, .int .i64 0, .string ⟨#[]⟩]) 11 104 Tryd.underlying24 hi hz0 hz1 hz2 rfl (by decide) _ _ _ rfl HO.out ⟨W2.heap.size, 0, none⟩ 1 1 [.string ⟨#[]⟩, .int .i64 F0, .int .i64 F0, .int .i64 6, .int .i64 1, .int .i64 0, .int .i64 (1 + (n3 : Int)), .int .i64 C1, .int .i64 C2, .int .i64 0, .string ⟨#[83]⟩] rfl rfl (blk_cells HN.out) (by simp [Value.oneCell']) (by decide) (by decide) HB.out.size ?_)
      intro v1 wa hown hgr hne
      have hb3 := own_grown HB.out HO.out hgr HB.out.size (Nat.le_refl _)
      rw [← HW.out] at hown
      have HE := Lib.hid (And.intro hown hb3)
      clear hown hb3 hgr hne HO HB HN HW
      go_wp2_with fail
      go_meet
      exact ⟨rfl, HE.out.1, HE.out.2⟩
    · have z' : ((n2 : Int) == 0) = false := by rw [beq_eq_false_iff_ne]; omega
      have HE := Lib.hid (And.intro hO0 hb0)
      clear hO0 hb0
      go_wp2_with fail
      go_meet
      exact ⟨rfl, HE.out.1, HE.out.2⟩
  case rest =>
    obtain ⟨rfl, hO1, hb1⟩ := hcut
    clear hO0 hb0 hp1 H1 a0 a1 a2 a3 ck HF0
    go_wp2_with fail
    refine (a5.out _ hb1).mono ?_
    rintro e wq ⟨rfl, rfl⟩
    go_upto_if 38 with fail
    go_cut [6, 7] (fun s6 s7 wx => s6 = .int .i64 F2 ∧ wx.ownsRow w.heap.size 38 11 s7 (R1 ++ R2).length (r17 (R1 ++ R2)) ∧ Below w.heap.size w wx)
    case first =>
      rcases hp2 with ⟨z, rfl, hF2⟩ | ⟨z, rfl, rfl⟩
      · subst z
        have HF2 := Lib.hid hF2.symm
        have HL2 : Hid (R1.length ≤ 5) := Lib.hid (by have := HL.out.2; rw [HR.out] at this; simp only [List.length_append] at this; omega)
        clear hF2 hp3 a9 a10 p11 HR
        go_wp2_with fail
        refine (a6.out _ hb1).mono ?_
        rintro e wq ⟨rfl, rfl⟩
        go_wp2_with fail
        rw [HT1.out]
        refine (p7.out _ _ _ _ hb1).mono ?_
        rintro e W2 ⟨⟨g, rfl, hg, hBk⟩, hc⟩
        have HB := Lib.hid (hb1.trans (hc.mono hb1.size))
        have HO := Lib.hid (own_below hO1 hc)
        have HN := Lib.hid hBk
        clear hO1 hg hBk hc 
        go_wp2_with (at_builtin; refine wpList_append_own _ rfl _ _ 24 rfl w.heap.size 38 i0' (.agg #[.string ⟨#[]⟩, .int .i64 0, .int .i64 0, .int .i64 0, .int .i64 0, .int .i64 0, .int .i64 0, .int .i64 0, .int .i64 0, .int .i64 0, .string ⟨#[]⟩]) 11 104 Tryd.underlying24 hi hz0 hz1 hz2 rfl (by decide) _ _ _ rfl HO.out ⟨g, 0, none⟩ 2 2 ((P17.pairA D 7 F1 T1 SV).cells ++ (P17.pairB D 7 F1 T1 SV).cells) rfl rfl (blk_cells HN.out) (cells_one2 _ _) (by have := HL2.out; simp only [maxLen]; omega) (by have := HL2.out; omega) HB.out.size ?_)
        intro v1 wa hown hgr hne
        have hb3 := own_grown HB.out HO.out hgr HB.out.size (Nat.le_refl _)
        have HX : Hid (r17 (R1 ++ [P17.pairA D 7 F1 T1 SV, P17.pairB D 7 F1 T1 SV]) = r17 R1 ++ ((P17.pairA D 7 F1 T1 SV).cells ++ (P17.pairB D 7 F1 T1 SV).cells)) := Lib.hid (by rw [r17_app]; show _ ++ (_ ++ (_ ++ [])) = _; rw [List.append_nil])
        rw [← HX.out] at hown
        have HE := Lib.hid (And.intro hown hb3)
        have hb4 := hb3
        clear hown hb3 hgr hne HO HB HN HX hb1
        go_wp2_with fail
        refine (a8.out _ hb4).mono ?_
        rintro e wq ⟨rfl, rfl⟩
        go_wp2_with fail
        rw [HF2.out]
        go_meet
        exact ⟨rfl, by rw [HP.out, List.length_append]; exact HE.out.1, HE.out.2⟩
      · have z' : ((n5 : Int) == 0) = false := by rw [beq_eq_false_iff_ne]; omega
        have HE := Lib.hid (And.intro hO1 hb1)
        clear hO1 hb1
        go_wp2_with fail
        go_meet
        exact ⟨rfl, by rw [List.append_nil]; exact HE.out.1, HE.out.2⟩
    case rest =>
      obtain ⟨rfl, hO2, hb2⟩ := hcut
      clear hO1 hb1 hp2 a5 a6 a8 p7 HT1
      go_wp2_with fail
      refine (a9.out _ hb2).mono ?_
      rintro e wq ⟨rfl, rfl⟩
      go_wp2_with fail
      refine (a10.out _ hb2).mono ?_
      rintro e wq ⟨rfl, rfl⟩
      go_upto_if 61 with fail
      go_cut [7, 9] (fun s7 s9 wx => s9 = .int .i64 T2 ∧ wx.ownsRow w.heap.size 38 11 s7 (R1 ++ R2).length (r17 (R1 ++ R2)) ∧ Below w.heap.size w wx)
      case first =>
        rcases hp3 with ⟨z, hT2⟩ | ⟨z, rfl⟩
        · subst z
          have HT2 := Lib.hid hT2.symm
          have HE := Lib.hid (And.intro hO2 hb2)
          clear hT2 hO2 hb2 HR HP HL p11 a9 a10
          go_wp2_with fail
          rw [HT2.out]
          go_meet
          exact ⟨rfl, HE.out.1, HE.out.2⟩
        · have z' : (0 : Int) < (n10 : Int) := by omega
          have HE := Lib.hid (And.intro hO2 hb2)
          clear hO2 hb2 HR HP HL p11 a9 a10
          go_wp2_with fail
          go_meet
          exact ⟨rfl, HE.out.1, HE.out.2⟩
      case rest =>
        obtain ⟨rfl, hO3, hb3⟩ := hcut
        clear hO2 hb2 hp3 a9 a10
        have HL2 : Hid ((R1 ++ R2).length ≤ 5) := Lib.hid (by have := HL.out.2; rw [HR.out] at this; simp only [List.length_append] at this ⊢; omega)
        go_wp2_with fail
        have hb1 := hb3
        clear hb3
        refine (p11.out _ _ _ _ hb1).mono ?_
        rintro e W2 ⟨⟨g, rfl, hg, hBk⟩, hc⟩
        have HB := Lib.hid (hb1.trans (hc.mono hb1.size))
        have HO := Lib.hid (own_below hO3 hc)
        have HN := Lib.hid hBk
        clear hO3 hg hBk hc 
        go_wp2_with (at_builtin; refine wpList_append_own _ rfl _ _ 24 rfl w.heap.size 38 i0' (.agg #[.string ⟨#[]⟩, .int .i64 0, .int .i64 0, .int .i64 0, .int .i64 0, .int .i64 0, .int .i64 0, .int .i64 0, .int .i64 0, .int .i64 0, .string ⟨#[]⟩]) 11 104 Tryd.underlying24 hi hz0 hz1 hz2 rfl (by decide) _ _ _ rfl HO.out ⟨g, 0, none⟩ 2 2 ((P17.pairA D 11 F2 T2 SV).cells ++ (P17.pairB D 11 F2 T2 SV).cells) rfl rfl (blk_cells HN.out) (cells_one2 _ _) (by have := HL2.out; simp only [maxLen]; omega) (by have := HL2.out; omega) HB.out.size ?_)
        intro v1 wa hown hgr hne
        have hb3 := own_grown HB.out HO.out hgr HB.out.size (Nat.le_refl _)
        have HX : Hid (r17 ((R1 ++ R2) ++ [P17.pairA D 11 F2 T2 SV, P17.pairB D 11 F2 T2 SV]) = r17 (R1 ++ R2) ++ ((P17.pairA D 11 F2 T2 SV).cells ++ (P17.pairB D 11 F2 T2 SV).cells)) := Lib.hid (by rw [r17_app]; show _ ++ (_ ++ (_ ++ [])) = _; rw [List.append_nil])
        rw [← HX.out] at hown
        have HRW : Hid (R1.length + R2.length + 2 = RW.length ∧ RW = R1 ++ R2 ++ [P17.pairA D 11 F2 T2 SV, P17.pairB D 11 F2 T2 SV]) := Lib.hid (by rw [HP.out] at HR; refine ⟨?_, HR.out⟩; rw [HR.out]; simp only [List.length_append]; rfl)
        rw [← HRW.out.2, HRW.out.1] at hown
        clear hb1 HO HB HN HX HL2 HR HP p11 hgr hne
        obtain ⟨NR, hNR⟩ : ∃ NR, RW.length = NR := ⟨_, rfl⟩
        have hN2 : 2 ≤ NR := by rw [← hNR]; exact HL.out.1
        have hN5 : NR ≤ 5 := by rw [← hNR]; exact HL.out.2
        have HNR := Lib.hid hNR
        rw [hNR] at hown
        clear hNR
        obtain ⟨Bq, cap, rfl, hBq, hBlt, hcap, _⟩ := own_form hown (by omega)
        have hN5i : (NR : Int) ≤ 5 := by omega
        rw [← mix_zero nm RW] at hown
        go_wp2_with fail
        generalize wa = W4 at *
        go_loopw [71] (fun s71 wr => ∃ k : Nat, k ≤ NR ∧ s71 = .int .i64 (k : Int) ∧ wr.ownsRow w.heap.size 38 11 (.slice (some ⟨Bq, 0, none⟩) NR cap) NR (r17 (mix17 nm RW k)) ∧ Below w.heap.size w wr) (fun i _ => NR - (intOf i).toNat)
        case atStart => exact ⟨0, Nat.zero_le _, rfl, hown, hb3⟩
        case round =>
          clear hown hb3
          obtain ⟨k, hk, rfl, hO, hb⟩ := hrel
          by_cases hlt : k < NR
          · obtain ⟨r, hr⟩ : ∃ r, RW[k]? = some r := ⟨_, List.getElem?_eq_getElem (by rw [HNR.out]; exact hlt)⟩
            have hki : (k : Int) < (NR : Int) := by omega
            have hfr : wr.frozen? ⟨Bq, k * 11, none⟩ = false := hO.frozenAt _
            have hmr := mix_at nm RW k r hr
            have hce : wr.cell? ⟨Bq, k * 11, none⟩ = some (.string r.name) := by
              rw [hO.cellAt (k * 11) (by omega)]
              have q := flat17 (mix17 nm RW k) k r hmr
              exact q
            have hst := (hO.stored (k * 11) (.string nm)).1
            rw [← r17_name nm _ k r hmr, ← mix_succ nm RW k r hr] at hst
            have HS := Lib.hid hst
            have HB := Lib.hid (hb.setCell (p := ⟨Bq, k * 11, none⟩) hBq (.string nm))
            clear hO hb hst hmr hr
            go_wp2_with fail
            go_roundw
            case rel => exact ⟨k + 1, by omega, by go_num, HS.out, HB.out⟩
            case measure => simp [intOf]; omega
          · obtain rfl : k = NR := by omega
            have hal : mix17 nm RW k = RW.map (P17.named nm) := by rw [← HNR.out]; exact mix_all nm RW
            rw [hal] at hO
            have hln : (RW.map (P17.named nm)).length = k := by rw [List.length_map]; exact HNR.out
            have HE := Lib.hid (And.intro hO hb)
            have HLN := Lib.hid hln
            clear hO hb hal hln
            go_wp2_with fail
            go_ret
            exact ⟨⟨_, rfl, by rw [HLN.out]; exact HE.out.1⟩, HE.out.2⟩
end Go.Proofs.YtmhciidliicheaaDoor
