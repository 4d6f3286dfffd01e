/- The walk of the reference's Expansion (chapter 20). -/
import Derived.Test.YtbajlkpjemandaaDoorNum20h
namespace Go.Proofs.YtbajlkpjemandaaDoor
open Go.RowKit
set_option linter.unusedVariables false

theorem ref_one (off save : Int) (l : List Int) : P20.expansion 0 off save l = P20.one (P20.text off) := rfl
theorem ref_fixed (off save : Int) (l : List Int) : P20.expansion 1 off save l = P20.one (P20.text (off + save)) := rfl
theorem ref_is (off save : Int) (l : List Int) (h : (P20.other l).2 = true) : P20.expansion 2 off save l = P20.both (P20.text off) (P20.text (off + (P20.other l).1)) := by
  show (if (P20.other l).2 = true then _ else _) = _
  rw [if_pos h]
theorem ref_isnt (off save : Int) (l : List Int) (h : (P20.other l).2 = false) : P20.expansion 2 off save l = if l.any (fun r => decide (r ≠ 0)) then ([], 14) else P20.one (P20.text off) := by
  show (if (P20.other l).2 = true then _ else _) = _
  rw [if_neg (by rw [h]; decide)]
theorem str_nil' : (str []).toList = [] := by rw [ByteArray.toList_eq]; rfl
theorem below_alloc_drewN (w : World) (ob : Obj) (n : Nat) : Below w.heap.size w ((w.alloc ob).drewN n) := below_drewN ((Below.refl _ _).alloc (Nat.le_refl _) _) n
theorem slash_str (S T : List UInt8) : str S ++ ByteArray.mk #[47] ++ str T = str (S ++ 47 :: T) := by
  rw [show ByteArray.mk #[47] = str [47] from rfl, str_append, str_append, List.append_assoc]; rfl
set_option maxRecDepth 100000 in
set_option maxHeartbeats 8000000 in
theorem rexpansion_any (off kind save : Int) (set fmt : ByteArray) (ui : Bool) (uy um dk dw dd asec ab : Int) (A : Option Addr) (L : List RV) (c : Nat) (w : World) (o64 : -9223372036854775808 ≤ off ∧ off ≤ 9223372036854775807) (s64 : -9223372036854775808 ≤ save ∧ save ≤ 9223372036854775807) (hl : L.length ≤ 1000000) (hsv : SvOk L) (hR : RulesIn w A L) :
    Calls Tryd.prog 72 #[.agg #[.int .i64 off, .int .i64 kind, .int .i64 save, .string set, .string fmt, .bool ui, .int .i64 uy, .int .i64 um, .int .i64 dk, .int .i64 dw, .int .i64 dd, .int .i64 asec, .int .i64 ab], .slice A L.length c] w fun e w' => e = .returned (.tuple #[.string (str (P20.expansion kind off save (svs L)).1), .int .i64 (P20.expansion kind off save (svs L)).2]) ∧ Below w.heap.size w w' := by
  have hR0 := hR.alloc (.cells #[.int .i64 off, .int .i64 kind, .int .i64 save, .string set, .string fmt, .bool ui, .int .i64 uy, .int .i64 um, .int .i64 dk, .int .i64 dw, .int .i64 dd, .int .i64 asec, .int .i64 ab] 33)
  have hli : (L.length : Int) ≤ 1000000 := by omega
  have c1 : Hid (∀ W, Calls Tryd.prog 67 #[.int .i64 off] W fun e w' => e = .returned (.string (str (P20.text off))) ∧ Q W w') := fun W => rtext_any off W o64.1 o64.2
  have ht7 := text_le off
  by_cases hk0 : kind = 0
  · subst hk0
    rw [ref_one, P20.one]
    generalize P20.text off = T at c1 ht7 ⊢
    clear hR hR0
    by_cases hT : T = []
    · subst hT
      have n1 := str_nil'
      rw [if_pos rfl]
      go_enter Tryd.func72, Tryd.ntmps72
      go_wp2_with fail
      refine (c1.out _).mono ?_
      rintro e w' ⟨rfl, m1, rfl⟩
      go_wp2_with fail
      go_ret2
      exact ⟨rfl, below_alloc_drewN _ _ _⟩
    · obtain ⟨n1, n2⟩ := str_ne (List.length_pos_iff.2 hT)
      rw [if_neg hT]
      clear hT
      go_enter Tryd.func72, Tryd.ntmps72
      go_wp2_with fail
      refine (c1.out _).mono ?_
      rintro e w' ⟨rfl, m1, rfl⟩
      go_wp2_with fail
      go_ret2
      exact ⟨rfl, below_alloc_drewN _ _ _⟩
  by_cases hk1 : kind = 1
  · subst hk1
    rw [ref_fixed, P20.one]
    have c2 : Hid (∀ W, Calls Tryd.prog 99 #[.int .i64 off, .int .i64 save] W fun e w' => e = .returned (.string (str (P20.text (off + save)))) ∧ Q W w') := fun W => rsum_any off save W o64.1 o64.2 s64.1 s64.2
    generalize P20.text (off + save) = T at c2 ⊢
    generalize P20.text off = T0 at c1 ht7
    clear hR hR0
    by_cases hT : T = []
    · subst hT
      have n1 := str_nil'
      rw [if_pos rfl]
      go_enter Tryd.func72, Tryd.ntmps72
      go_wp2_with fail
      refine (c1.out _).mono ?_
      rintro e w' ⟨rfl, m1, rfl⟩
      go_wp2_with fail
      refine (c2.out _).mono ?_
      rintro e w' ⟨rfl, m2, rfl⟩
      go_wp2_with fail
      go_ret2
      exact ⟨rfl, below_alloc_drewN _ _ _⟩
    · obtain ⟨n1, n2⟩ := str_ne (List.length_pos_iff.2 hT)
      rw [if_neg hT]
      clear hT
      go_enter Tryd.func72, Tryd.ntmps72
      go_wp2_with fail
      refine (c1.out _).mono ?_
      rintro e w' ⟨rfl, m1, rfl⟩
      go_wp2_with fail
      refine (c2.out _).mono ?_
      rintro e w' ⟨rfl, m2, rfl⟩
      go_wp2_with fail
      go_ret2
      exact ⟨rfl, below_alloc_drewN _ _ _⟩
  by_cases hk2 : kind = 2
  · subst hk2
    have cO : Hid (∀ W, RulesIn W A L → Calls Tryd.prog 100 #[.slice A L.length c] W fun e w' => e = .returned (.tuple #[.int .i64 (P20.other (svs L)).1, .bool (P20.other (svs L)).2]) ∧ Q W w') := fun W h => rother_any A L c W hl h
    obtain ⟨x0, x1⟩ := other_bd (svs L) hsv
    have e1 := ref_is off save (svs L)
    have e2 := ref_isnt off save (svs L)
    obtain ⟨X, hX⟩ : ∃ X, X = (P20.other (svs L)).1 := ⟨_, rfl⟩
    rw [← hX] at x0 x1 e1 cO
    clear hX hR
    have c2 : Hid (∀ W, Calls Tryd.prog 99 #[.int .i64 off, .int .i64 X] W fun e w' => e = .returned (.string (str (P20.text (off + X)))) ∧ Q W w') := fun W => rsum_any off X W o64.1 o64.2 x0 x1
    have hu7 := text_le (off + X)
    obtain ⟨R, hRR⟩ : ∃ R, R = P20.expansion 2 off save (svs L) := ⟨_, rfl⟩
    rw [← hRR] at e1 e2 ⊢
    clear hRR
    generalize P20.text (off + X) = U at e1 c2 hu7
    generalize P20.text off = T at e1 e2 c1 ht7
    generalize (P20.other (svs L)).2 = I at e1 e2 cO
    have hts : (str T).size ≤ 7 := ht7
    have hus : (str U).size ≤ 7 := hu7
    cases I with
    | true =>
      have HR : Hid (R = P20.both T U) := Lib.hid (e1 rfl)
      clear e1 e2
      go_enter Tryd.func72, Tryd.ntmps72
      go_wp2_with fail
      refine (c1.out _).mono ?_
      rintro e w' ⟨rfl, m1, rfl⟩
      have hR1 := hR0.drewN m1
      go_wp2_with fail
      refine (cO.out _ hR1).mono ?_
      rintro e w' ⟨rfl, m2, rfl⟩
      clear hR0
      have hR0 := hR1.drewN m2
      rw [World.drewN_drewN] at hR0
      clear hR1 cO c1
      go_wp2_with fail
      go_loop [11] (fun i => ∃ k : Nat, k ≤ L.length ∧ i = .int .i64 k) (fun i => L.length - (intOf i).toNat)
      case atStart => exact ⟨0, Nat.zero_le _, rfl⟩
      case round =>
        obtain ⟨k, hk, rfl⟩ := hrel
        by_cases hlt : k < L.length
        · obtain ⟨r, hr⟩ : ∃ r, L[k]? = some r := ⟨_, List.getElem?_eq_getElem hlt⟩
          obtain ⟨b, o, rfl, hlb, c0, c1', c2', c3, c4, c5, c6, c7, c8, c9, c10⟩ := hR0.get k r hr
          clear c0 c1' c2' c3 c4 c5 c6 c7 c8 c10
          have hki : (k : Int) < (L.length : Int) := by omega
          by_cases hz : r.save = 0
          · have e1 : (r.save != 0) = false := by rw [bne_eq_false_iff_eq]; exact hz
            clear hz hr hR0
            generalize r.save = sv at e1 c9
            go_wp2_with fail
            go_round
            case rel => exact ⟨k + 1, by omega, by go_num⟩
            case measure => simp [intOf]; omega
          · have e1 : (r.save != 0) = true := by rw [bne_iff_ne]; exact hz
            clear hz hr hR0
            generalize r.save = sv at e1 c9
            go_wp2_with fail
            go_round
            case rel => exact ⟨k + 1, by omega, by go_num⟩
            case measure => simp [intOf]; omega
        · obtain rfl : k = L.length := by omega
          have hki : ¬ (L.length : Int) < (L.length : Int) := by omega
          clear hR0
          by_cases hT : T = []
          · subst hT
            have n1 := str_nil'
            have HG : Hid (R = ([], 3)) := Lib.hid (HR.out.trans (if_pos (.inl rfl)))
            clear HR
            go_wp2_with fail
            refine (c2.out _).mono ?_
            rintro e w' ⟨rfl, m3, rfl⟩
            go_wp2_with fail
            go_ret2
            exact ⟨by rw [HG.out]; rfl, below_alloc_drewN _ _ _⟩
          · obtain ⟨n1, n2⟩ := str_ne (List.length_pos_iff.2 hT)
            by_cases hU : U = []
            · have HG : Hid (R = ([], 3)) := Lib.hid (HR.out.trans (if_pos (.inr hU)))
              subst hU
              have n3 := str_nil'
              clear HR hT
              go_wp2_with fail
              refine (c2.out _).mono ?_
              rintro e w' ⟨rfl, m3, rfl⟩
              go_wp2_with fail
              go_ret2
              exact ⟨by rw [HG.out]; rfl, below_alloc_drewN _ _ _⟩
            · obtain ⟨n3, n4⟩ := str_ne (List.length_pos_iff.2 hU)
              have HG : Hid (R = (T ++ 47 :: U, 0)) := Lib.hid (HR.out.trans (if_neg (fun q => q.elim hT hU)))
              have HS := Lib.hid (slash_str T U)
              clear HR hT hU
              go_wp2_with fail
              refine (c2.out _).mono ?_
              rintro e w' ⟨rfl, m3, rfl⟩
              go_wp2_with fail
              go_ret2
              exact ⟨by rw [HG.out, ← HS.out]; rfl, below_alloc_drewN _ _ _⟩
    | false =>
      have HR := Lib.hid (e2 rfl)
      clear e1 e2
      go_enter Tryd.func72, Tryd.ntmps72
      go_wp2_with fail
      refine (c1.out _).mono ?_
      rintro e w' ⟨rfl, m1, rfl⟩
      have hR1 := hR0.drewN m1
      go_wp2_with fail
      refine (cO.out _ hR1).mono ?_
      rintro e w' ⟨rfl, m2, rfl⟩
      clear hR0
      have hR0 := hR1.drewN m2
      rw [World.drewN_drewN] at hR0
      clear hR1 cO c1
      go_wp2_with fail
      go_loop [11] (fun i => ∃ k : Nat, k ≤ L.length ∧ i = .int .i64 k ∧ Hid (∀ j r, j < k → L[j]? = some r → r.save = 0)) (fun i => L.length - (intOf i).toNat)
      case atStart => exact ⟨0, Nat.zero_le _, rfl, fun j r hj => absurd hj (Nat.not_lt_zero _)⟩
      case round =>
        obtain ⟨k, hk, rfl, HN⟩ := hrel
        by_cases hlt : k < L.length
        · obtain ⟨r, hr⟩ : ∃ r, L[k]? = some r := ⟨_, List.getElem?_eq_getElem hlt⟩
          obtain ⟨b, o, rfl, hlb, c0, c1', c2', c3, c4, c5, c6, c7, c8, c9, c10⟩ := hR0.get k r hr
          clear c0 c1' c2' c3 c4 c5 c6 c7 c8 c10
          have hki : (k : Int) < (L.length : Int) := by omega
          have z0 := fun q => any_hit hr q
          have z1 : r.save = 0 → ∀ j r', j < k + 1 → L[j]? = some r' → r'.save = 0 := fun q j r' hj hr' => by
            rcases Nat.lt_succ_iff_lt_or_eq.mp hj with hj | hj
            · exact HN.out j r' hj hr'
            · rw [hj, hr] at hr'; injection hr' with hr'; rw [← hr']; exact q
          by_cases hz : r.save = 0
          · have HZ := Lib.hid (z1 hz)
            have e1 : (r.save != 0) = false := by rw [bne_eq_false_iff_eq]; exact hz
            clear hz hr z0 z1 hR0 HN
            generalize r.save = sv at e1 c9
            go_wp2_with fail
            go_round
            case rel => exact ⟨k + 1, by omega, by go_num, HZ⟩
            case measure => simp [intOf]; omega
          · have HG : Hid (R = ([], 14)) := Lib.hid (HR.out.trans (if_pos (z0 hz)))
            have e1 : (r.save != 0) = true := by rw [bne_iff_ne]; exact hz
            clear hz hr z0 z1 hR0 HN
            generalize r.save = sv at e1 c9
            go_wp2_with fail
            go_ret2
            exact ⟨by rw [HG.out]; rfl, below_alloc_drewN _ _ _⟩
        · obtain rfl : k = L.length := by omega
          have hki : ¬ (L.length : Int) < (L.length : Int) := by omega
          clear hR0
          have hno := any_no HN.out
          have HQ : Hid (R = P20.one T) := Lib.hid (HR.out.trans (if_neg (by rw [hno]; decide)))
          clear hno HR HN
          by_cases hT : T = []
          · have HG : Hid (R = ([], 3)) := Lib.hid (HQ.out.trans (if_pos hT))
            subst hT
            have n1 := str_nil'
            clear HQ
            go_wp2_with fail
            refine (c2.out _).mono ?_
            rintro e w' ⟨rfl, m3, rfl⟩
            go_wp2_with fail
            go_ret2
            exact ⟨by rw [HG.out]; rfl, below_alloc_drewN _ _ _⟩
          · obtain ⟨n1, n2⟩ := str_ne (List.length_pos_iff.2 hT)
            have HG : Hid (R = (T, 0)) := Lib.hid (HQ.out.trans (if_neg hT))
            clear HQ hT
            go_wp2_with fail
            refine (c2.out _).mono ?_
            rintro e w' ⟨rfl, m3, rfl⟩
            go_wp2_with fail
            go_ret2
            exact ⟨by rw [HG.out]; rfl, below_alloc_drewN _ _ _⟩
  have hq : kind < 0 ∨ 2 < kind := by omega
  rw [exp_else kind off save (svs L) hq]
  clear hk0 hk1 hk2 hR hR0
  rcases hq with hq | hq
  · skip
    go_enter Tryd.func72, Tryd.ntmps72
    go_wp2_with fail
    go_ret2
    exact ⟨rfl, (Below.refl _ _).alloc (Nat.le_refl _) _⟩
  · have hq' : ¬ kind < 0 := by omega
    go_enter Tryd.func72, Tryd.ntmps72
    go_wp2_with fail
    go_ret2
    exact ⟨rfl, (Below.refl _ _).alloc (Nat.le_refl _) _⟩
end Go.Proofs.YtbajlkpjemandaaDoor
