/- The walk of the law OffsetFields (chapter 4). -/
import Derived.Test.YtgaacbmihcbedaaDoorTwo4
import Derived.Deep.DeepCutAuto
import Derived.ArgAppend
import Derived.OpenShut
namespace Go.Proofs.YtgaacbmihcbedaaDoor
open Go.RowKit
set_option linter.unusedVariables false

/-- the row's cells are the strings -/
structure Row4 (w : World) (base B : Nat) (L : List (List UInt8)) : Prop where
  cell : ∀ k t, L[k]? = some t → w.cell? ⟨B, k, none⟩ = some (.string (str t))
  lt : B < w.heap.size
  ge : base ≤ B
theorem Row4.below {w w' : World} {base B : Nat} {L : List (List UInt8)} (h : Row4 w base B L) (hb : Below w.heap.size w w') : Row4 w' base B L :=
  ⟨fun k t ht => (hb.cell (p := ⟨B, k, none⟩) h.lt).trans (h.cell k t ht), Nat.lt_of_lt_of_le h.lt hb.size, h.ge⟩

theorem Row4.one (w w4 : World) (t : List UInt8) (ty : TypeId) (h : w.heap.size ≤ w4.heap.size) : Row4 (w4.alloc (.cells #[.string (str t)] ty)) w.heap.size w4.heap.size [t] :=
  ⟨fun k u hu => by
    rw [(Blk.new w4 ty #[.string (str t)]).cell k]
    match k, hu with
    | 0, hu => injection hu with hu; rw [← hu]; rfl, (Blk.new w4 ty _).lt, h⟩
theorem infoS : (Tryd.prog.info? 9).map (fun i => (i.zero, i.size, i.bytes)) = some (some (.string ⟨#[]⟩), 1, 16) := by kernel_rfl
theorem own_one {w : World} {base B : Nat} {v : Value} (h : Blk w B 9 #[v]) (hb : base ≤ B) : w.ownsRow base 9 1 (.slice (some ⟨B, 0, none⟩) 1 1) 1 [v] :=
  ⟨rfl, .inr ⟨B, 1, #[v], rfl, hb, h, Nat.le_refl _, by decide, rfl, rfl⟩⟩
theorem new_cells {w : World} {B : Nat} {v : Value} (h : Blk w B 9 #[v]) : ∀ (j : Nat) u, [v][j]? = some u → w.cell? ((⟨B, 0, none⟩ : Addr).add j) = some u := by
  intro j u hu
  rw [show (⟨B, 0, none⟩ : Addr).add j = ⟨B, j, none⟩ by unfold Addr.add; split <;> simp_all, h.cell j]
  match j, hu with
  | 0, hu => injection hu with hu; rw [← hu]; rfl
theorem new_one (t : List UInt8) : ∀ u ∈ [Value.string (str t)], u.oneCell' = true := by
  intro u hu
  rw [List.mem_singleton] at hu
  rw [hu]; rfl
theorem own_open {w : World} {base n : Nat} {v : Value} {xs : List Value} (h : w.ownsRow base 9 1 v n xs) (hn : 0 < n) : ∃ B cap, v = .slice (some ⟨B, 0, none⟩) n cap ∧ base ≤ B ∧ B < w.heap.size ∧ ∀ k u, xs[k]? = some u → w.cell? ⟨B, k, none⟩ = some u := by
  have hc := fun g hg => h.cells (g := g) hg
  have hl := h.lt
  rcases h.2 with ⟨_, q⟩ | ⟨g, cap, cur, rfl, hg, hh, _⟩
  · omega
  · refine ⟨g, cap, rfl, hg, (hl g rfl).2, fun k u hu => ?_⟩
    have := hc g rfl k u hu
    rwa [show (⟨g, 0, none⟩ : Addr).add k = ⟨g, k, none⟩ by unfold Addr.add; split <;> simp_all] at this
theorem two_forms {X : Nat} {a b : List UInt8} (ha : P4.Form X a) (hb : P4.Form X b) : ∀ t ∈ [a, b], P4.Form X t := by
  intro t ht
  simp only [List.mem_cons, List.not_mem_nil, or_false] at ht
  rcases ht with rfl | rfl
  · exact ha
  · exact hb
theorem three_forms {X : Nat} {a b c : List UInt8} (ha : P4.Form X a) (hb : P4.Form X b) (hc : P4.Form X c) : ∀ t ∈ [a, b, c], P4.Form X t := by
  intro t ht
  simp only [List.mem_cons, List.not_mem_nil, or_false] at ht
  rcases ht with rfl | rfl | rfl
  · exact ha
  · exact hb
  · exact hc
theorem cells_of {w : World} {B : Nat} (L : List (List UInt8)) (xs : List Value) (hx : xs = L.map fun t => Value.string (str t)) (h : ∀ k u, xs[k]? = some u → w.cell? ⟨B, k, none⟩ = some u) : ∀ k t, L[k]? = some t → w.cell? ⟨B, k, none⟩ = some (.string (str t)) := by
  intro k t ht
  refine h k _ ?_
  rw [hx, List.getElem?_map, ht]
  rfl
set_option maxRecDepth 100000 in
set_option maxHeartbeats 20000000 in
theorem fields_walk (a b c : Int) (minus : Bool) (H M S X : Nat) (D W0 U : List UInt8) (w : World) (ha0 : 0 ≤ a) (ha1 : a ≤ 255) (hb0 : 0 ≤ b) (hb1 : b ≤ 255) (hc0 : 0 ≤ c) (hc1 : c ≤ 255)
    (hH : a % 168 = (H : Int)) (hM : b % 60 = (M : Int)) (hS : c % 60 = (S : Int)) (hX : 3600 * (H : Int) + 60 * (M : Int) + (S : Int) = (X : Int)) (hv : Vars w)
    (hh : (H : Int) < 168) (hm : (M : Int) < 60) (hs : (S : Int) < 60) (hD : (str D).size ≤ 3) (hW : (str W0).size ≤ 20) (HWh : Hid (W0 = if S = 0 then P4.form2 D M else P4.form3 D M S)) (hE2 : str D ++ ByteArray.mk #[58] ++ str (P4.two M) = str (P4.form2 D M)) (hE3 : str (P4.form2 D M) ++ ByteArray.mk #[58] ++ str (P4.two S) = str (P4.form3 D M S)) (hF2 : (str (P4.form2 D M)).size ≤ 10) (hF3 : (str (P4.form3 D M S)).size ≤ 10)
    (f3 : P4.Form X (P4.form3 D M S)) (f2 : S = 0 → P4.Form X (P4.form2 D M)) (f1 : S = 0 → M = 0 → P4.Form X D) (hT1 : (str (P4.two M)).size ≤ 2) (hT2 : (str (P4.two S)).size ≤ 2)
    (c1 : Hid (∀ W, Vars W → Calls Tryd.prog 19 #[.int .i64 X] W fun e w' => e = .returned (.tuple #[.string (str W0), .int .i64 0]) ∧ Below W.heap.size W w'))
    (c2 : Hid (∀ W, Calls Tryd.prog 23 #[.string (str W0), .string ⟨#[58]⟩] W fun e w' => e = .returned (.tuple #[.string (str D), .string (str U), .bool true]) ∧ Q W w'))
    (c3 : Hid (∀ W, Calls Tryd.prog 22 #[.int .i64 M] W fun e w' => e = .returned (.string (str (P4.two M))) ∧ Below W.heap.size W w'))
    (c4 : Hid (∀ W, Calls Tryd.prog 22 #[.int .i64 S] W fun e w' => e = .returned (.string (str (P4.two S))) ∧ Below W.heap.size W w')) :
    Calls Tryd.prog 9 #[.int .u8 a, .int .u8 b, .int .u8 c, .bool minus] w fun e w' => e = .returned (.bool true) ∧ Below w.heap.size w w' := by
  go_enter Tryd.func9, Tryd.ntmps9
  go_wp2_with fail
  refine (c1.out _ hv).mono ?_
  rintro e w1 ⟨rfl, hw1⟩
  have hv1 := hv.below hw1
  go_wp2_with fail
  refine (c2.out _).mono ?_
  rintro e w2 ⟨rfl, hq2⟩
  have hw2 := hw1.trans (hq2.below w.heap.size)
  have hv2 := hv.below hw2
  clear hq2
  go_wp2_with fail
  refine (c3.out _).mono ?_
  rintro e w3 ⟨rfl, hc3⟩
  have hw3 := hw2.trans (hc3.mono hw2.size)
  go_wp2_with fail
  refine (c4.out _).mono ?_
  rintro e w4 ⟨rfl, hc4⟩
  have hw4 := hw3.trans (hc4.mono hw3.size)
  go_upto_if 69 with (fail)
  go_cut [19] (fun s19 wx => ∃ (L : List (List UInt8)) (B cap : Nat), s19 = .slice (some ⟨B, 0, none⟩) L.length cap ∧ L.length ≤ 3 ∧ (∀ t ∈ L, P4.Form X t) ∧ L[0]? = some (P4.form3 D M S) ∧ (S = 0 → L[1]? = some (P4.form2 D M)) ∧ Row4 wx w.heap.size B L ∧ Below w.heap.size w wx)
  case first =>
    have hr4 := Row4.one w w4 (P4.form3 D M S) 9 hw4.size
    have hal : Below w.heap.size w (w4.alloc (.cells #[.string (str (P4.form3 D M S))] 9)) := hw4.alloc hw4.size _
    by_cases hS0 : S = 0
    · have hz : ((S : Int) == 0) = true := by rw [beq_iff_eq]; omega
      have HS0 := Lib.hid hS0
      clear hS0
      go_wp2_with fail
      refine (c3.out _).mono ?_
      rintro e w5 ⟨rfl, hc5⟩
      have hB4 : Blk (w4.alloc (.cells #[.string (str (P4.form3 D M S))] 9)) w4.heap.size 9 #[.string (str (P4.form3 D M S))] := Blk.new _ _ _
      have hB5 : Blk w5 w4.heap.size 9 #[.string (str (P4.form3 D M S))] := hB4.below hc5 hB4.lt
      have hw5 := hal.trans (hc5.mono hal.size)
      have hn5 : Blk (w5.alloc (.cells #[.string (str (P4.form2 D M))] 9)) w5.heap.size 9 #[.string (str (P4.form2 D M))] := Blk.new _ _ _
      have hO := own_one (base := w.heap.size) (hB5.alloc (.cells #[.string (str (P4.form2 D M))] 9)) hw4.size
      have hw6 := hw5.alloc hw5.size (.cells #[.string (str (P4.form2 D M))] 9)
      obtain ⟨i0, hi, hz0, hz1, hz2⟩ := info_parts infoS
      have HL : Hid (w4.heap.size ≤ (w5.alloc (.cells #[.string (str (P4.form2 D M))] 9)).heap.size) := Nat.le_of_lt (hB5.alloc (.cells #[.string (str (P4.form2 D M))] 9)).lt
      have HB := Lib.hid hn5
      have HO := Lib.hid hO
      have HW := Lib.hid hw6
      clear hO hn5 hB4 hB5 hc5 hw5 hal hr4 hw6
      go_wp2_with (at_builtin; refine wpList_append_own _ rfl _ _ 35 rfl w.heap.size 9 i0 (.string ⟨#[]⟩) 1 16 Tryd.underlying35 hi hz0 hz1 hz2 rfl (by decide) _ _ _ rfl HO.out ⟨w5.heap.size, 0, none⟩ 1 1 [.string (str (P4.form2 D M))] rfl rfl (new_cells HB.out) (new_one _) (by decide) (by decide) HW.out.size ?_)
      intro v1 wa hown hgr hne
      have hwa := HW.out.grown hgr (Nat.le_trans hw4.size HL.out) (fun k hk => by injection hk with hk; rw [← hk]; exact hw4.size)
      obtain ⟨B1, cap1, rfl, hB1, hlt1, hcs⟩ := own_open hown (by decide)
      clear hne hgr HO HB HW HL
      have HC := Lib.hid hcs
      clear hcs
      by_cases hM0 : M = 0
      · have hzM : ((M : Int) == 0) = true := by rw [beq_iff_eq]; omega
        have HM0 := Lib.hid hM0
        clear hM0
        have hn5 : Blk (wa.alloc (.cells #[.string (str D)] 9)) wa.heap.size 9 #[.string (str D)] := Blk.new _ _ _
        have HL1 : Hid (B1 < (wa.alloc (.cells #[.string (str D)] 9)).heap.size) := Nat.lt_of_lt_of_le hlt1 (Nat.le_of_lt (by simp))
        have HB := Lib.hid hn5
        have HO := Lib.hid (hown.alloc (.cells #[.string (str D)] 9))
        have HW := Lib.hid (hwa.alloc hwa.size (.cells #[.string (str D)] 9))
        clear hown hn5 hwa HC
        go_wp2_with (at_builtin; refine wpList_append_own _ rfl _ _ 35 rfl w.heap.size 9 i0 (.string ⟨#[]⟩) 1 16 Tryd.underlying35 hi hz0 hz1 hz2 rfl (by decide) _ _ _ rfl HO.out ⟨wa.heap.size, 0, none⟩ 1 1 [.string (str D)] rfl rfl (new_cells HB.out) (new_one _) (by decide) (by decide) HW.out.size ?_)
        intro v2 wb hown2 hgr2 hne2
        have hwb := HW.out.grown hgr2 (Nat.le_trans hB1 (Nat.le_of_lt HL1.out)) (fun k hk => by injection hk with hk; rw [← hk]; exact hB1)
        obtain ⟨B2, cap2, rfl, hB2, hlt2, hcs2⟩ := own_open hown2 (by decide)
        clear hne2 hgr2 HO HB HW HL1 hown2
        have HC := Lib.hid hcs2
        clear hcs2
        go_wp2_with fail
        go_meet
        exact ⟨[P4.form3 D M S, P4.form2 D M, D], B2, cap2, rfl, Nat.le_refl 3, three_forms f3 (f2 HS0.out) (f1 HS0.out HM0.out), rfl, fun _ => rfl, ⟨cells_of _ _ rfl HC.out, hlt2, hB2⟩, hwb⟩
      · have hzM : ((M : Int) == 0) = false := by rw [beq_eq_false_iff_ne]; omega
        clear hown
        go_wp2_with fail
        go_meet
        exact ⟨[P4.form3 D M S, P4.form2 D M], B1, cap1, rfl, Nat.le_succ 2, two_forms f3 (f2 HS0.out), rfl, fun _ => rfl, ⟨cells_of _ _ rfl HC.out, hlt1, hB1⟩, hwa⟩
    · have hz : ((S : Int) == 0) = false := by rw [beq_eq_false_iff_ne]; omega
      go_wp2_with fail
      go_meet
      exact ⟨[P4.form3 D M S], w4.heap.size, 1, rfl, Nat.le_succ_of_le (Nat.le_succ 1), (by intro t ht; rw [List.mem_singleton] at ht; rw [ht]; exact f3), rfl, fun q => absurd q hS0, hr4, hal⟩
  case rest =>
    obtain ⟨L, B, cap, rfl, hL, hF, hL0, hL1, hR, hb⟩ := hcut
    have hL3 : (L.length : Int) ≤ 3 := by omega
    have hLp : 0 < L.length := by
      cases L with
      | nil => cases hL0
      | cons _ _ => exact Nat.succ_pos _
    have hLp' : (0 : Int) < (L.length : Int) := by omega
    have hL2 : S = 0 → (1 : Int) < (L.length : Int) := fun q => by
      have := (List.getElem?_eq_some_iff.mp (hL1 q)).1
      omega
    have hX0 : (0 : Int) ≤ (X : Int) := by omega
    have hX1 : (X : Int) ≤ 604799 := by omega
    have HF := Lib.hid hF
    have HL0 := Lib.hid hL0
    have HL1 := Lib.hid hL1
    have HL2 := Lib.hid hL2
    have HLp := Lib.hid hLp
    clear hF hL0 hL1 hL2 hLp
    go_wp2_with fail
    go_loopw [87] (fun i w2 => ∃ k : Nat, k ≤ L.length ∧ i = .int .i64 k ∧ Row4 w2 w.heap.size B L ∧ Below w.heap.size w w2) (fun i _ => L.length - (intOf i).toNat)
    case atStart => exact ⟨0, Nat.zero_le _, rfl, hR, hb⟩
    case round =>
      obtain ⟨k, hk, rfl, hR2, hb2⟩ := hrel
      have hk0 : (0 : Int) ≤ (k : Int) := by omega
      by_cases hlt : k < L.length
      · obtain ⟨t, ht⟩ : ∃ t, L[k]? = some t := ⟨_, List.getElem?_eq_getElem hlt⟩
        have cc := hR2.cell k t ht
        obtain ⟨p1, p2, p3⟩ := HF.out t (List.mem_of_getElem? ht)
        have hts : (str t).size ≤ 10 := p3
        have hki : (k : Int) < (L.length : Int) := by omega
        have hmn : ByteArray.mk #[45] ++ str t = str (45 :: t) := str_append [45] t
        have cP : Hid (∀ W, Vars W → Calls Tryd.prog 17 #[.string (str t)] W fun e w' => e = .returned (.tuple #[.int .i64 (X : Int), .int .i64 0]) ∧ Below W.heap.size W w') := fun W h => by have q := parse_any (str t) W (Nat.le_trans p3 (by decide)) h; simp only [P4.pv, P4.pe, show P4.parse (P4.bl (str t)) = ((X : Int), 0) from p1] at q; exact q
        have cN : Hid (∀ W, Vars W → Calls Tryd.prog 17 #[.string (str (45 :: t))] W fun e w' => e = .returned (.tuple #[.int .i64 (P4.neg X).1, .int .i64 (P4.neg X).2]) ∧ Below W.heap.size W w') := fun W h => by have q := parse_any (str (45 :: t)) W (Nat.le_trans (Nat.succ_le_succ p3) (by decide)) h; simp only [P4.pv, P4.pe, show P4.parse (P4.bl (str (45 :: t))) = P4.neg X from p2] at q; exact q
        have HT := Lib.hid ht
        clear p1 p2 p3 ht
        cases minus with
        | false =>
          go_wp2_with fail
          refine (cP.out _ (hv.below hb2)).mono ?_
          rintro e w8 ⟨rfl, hc8⟩
          have hb8 := hb2.trans (hc8.mono hb2.size)
          have hR8 := hR2.below hc8
          go_wp2_with fail
          go_roundw
          case rel => first | exact ⟨k + 1, by omega, by go_num, hR8, hb8⟩ | ((repeat apply Exists.intro); exact ⟨⟨k + 1, by omega, by go_num, hR8, hb8⟩, rfl⟩)
          case measure => simp [intOf]; omega
        | true =>
          by_cases hx : X = 0
          · have hx1 : ((X : Int) == 0) = true := by rw [beq_iff_eq]; omega
            have hx2 : ((X : Int) != 0) = false := by rw [bne_eq_false_iff_eq]; omega
            rw [show P4.neg X = (0, 5) from if_pos hx] at cN
            have HX := Lib.hid hx
            clear hx
            go_wp2_with fail
            refine (cN.out _ (hv.below hb2)).mono ?_
            rintro e w8 ⟨rfl, hc8⟩
            have hb8 := hb2.trans (hc8.mono hb2.size)
            have hR8 := hR2.below hc8
            go_wp2_with fail
            go_roundw
            case rel => first | exact ⟨k + 1, by omega, by go_num, hR8, hb8⟩ | ((repeat apply Exists.intro); exact ⟨⟨k + 1, by omega, by go_num, hR8, hb8⟩, rfl⟩)
            case measure => simp [intOf]; omega
          · have hx1 : ((X : Int) == 0) = false := by rw [beq_eq_false_iff_ne]; omega
            have hx2 : ((X : Int) != 0) = true := by rw [bne_iff_ne]; omega
            rw [show P4.neg X = (-(X : Int), 0) from if_neg hx] at cN
            clear hx
            go_wp2_with fail
            refine (cN.out _ (hv.below hb2)).mono ?_
            rintro e w8 ⟨rfl, hc8⟩
            have hb8 := hb2.trans (hc8.mono hb2.size)
            have hR8 := hR2.below hc8
            go_wp2_with fail
            go_roundw
            case rel => first | exact ⟨k + 1, by omega, by go_num, hR8, hb8⟩ | ((repeat apply Exists.intro); exact ⟨⟨k + 1, by omega, by go_num, hR8, hb8⟩, rfl⟩)
            case measure => simp [intOf]; omega
      · obtain rfl : k = L.length := by omega
        have cc := hR2.cell 0 _ HL0.out
        have hv9 := hv.below hb2
        by_cases hS0 : S = 0
        · have hz : ((S : Int) == 0) = true := by rw [beq_iff_eq]; omega
          have h1l := HL2.out hS0
          have c11 := hR2.cell 1 _ (HL1.out hS0)
          have hq : ((str W0).toList == (str (P4.form2 D M)).toList) = true := by rw [HWh.out, if_pos hS0]; exact beq_self_eq_true _
          clear hS0
          go_wp2_with fail
          refine (works4_any _ hv9).mono ?_
          rintro e w10 ⟨rfl, hc10⟩
          have hb10 := hb2.trans (hc10.mono hb2.size)
          go_wp2_with fail
          go_ret
          exact ⟨rfl, hb10⟩
        · have hz : ((S : Int) == 0) = false := by rw [beq_eq_false_iff_ne]; omega
          have hq : ((str W0).toList == (str (P4.form3 D M S)).toList) = true := by rw [HWh.out, if_neg hS0]; exact beq_self_eq_true _
          clear hS0
          go_wp2_with fail
          refine (works4_any _ hv9).mono ?_
          rintro e w10 ⟨rfl, hc10⟩
          have hb10 := hb2.trans (hc10.mono hb2.size)
          go_wp2_with fail
          go_ret
          exact ⟨rfl, hb10⟩
end Go.Proofs.YtgaacbmihcbedaaDoor
