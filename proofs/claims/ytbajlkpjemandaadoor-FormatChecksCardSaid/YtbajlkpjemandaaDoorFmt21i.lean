/- The walk of the reference's Check (chapter 21). -/
import Derived.Test.YtbajlkpjemandaaDoorFmt21h
import Derived.Test.YtbajlkpjemandaaDoorFmt21g
import Derived.Test.YtbajlkpjemandaaDoorNum20i
import Derived.LoopN
namespace Go.Proofs.YtbajlkpjemandaaDoor
open Go.RowKit Go.Lib
set_option linter.unusedVariables false

theorem keepR {w W W' : World} {B b i : Nat} {f l : ByteArray} {t : TypeId} {cs : Array Value} (hb : Below W.heap.size W W') (h : W.cell? ⟨B, 4, none⟩ = some (.string f) ∧ W.cell? ⟨b, i, none⟩ = some (.string l) ∧ B < W.heap.size ∧ b < W.heap.size ∧ Blk W B t cs ∧ Below w.heap.size w W) : W'.cell? ⟨B, 4, none⟩ = some (.string f) ∧ W'.cell? ⟨b, i, none⟩ = some (.string l) ∧ B < W'.heap.size ∧ b < W'.heap.size ∧ Blk W' B t cs ∧ Below w.heap.size w W' :=
  ⟨(hb.cell (p := ⟨B, 4, none⟩) h.2.2.1).trans h.1, (hb.cell (p := ⟨b, i, none⟩) h.2.2.2.1).trans h.2.1, Nat.lt_of_lt_of_le h.2.2.1 hb.size, Nat.lt_of_lt_of_le h.2.2.2.1 hb.size, h.2.2.2.2.1.below hb h.2.2.1, h.2.2.2.2.2.trans (hb.mono h.2.2.2.2.2.size)⟩
theorem blkR {w W : World} {B b i : Nat} {f l : ByteArray} {t : TypeId} {cs : Array Value} (h : W.cell? ⟨B, 4, none⟩ = some (.string f) ∧ W.cell? ⟨b, i, none⟩ = some (.string l) ∧ B < W.heap.size ∧ b < W.heap.size ∧ Blk W B t cs ∧ Below w.heap.size w W) : Blk W B t cs := h.2.2.2.2.1
theorem belR {w W : World} {B b i : Nat} {f l : ByteArray} {t : TypeId} {cs : Array Value} (h : W.cell? ⟨B, 4, none⟩ = some (.string f) ∧ W.cell? ⟨b, i, none⟩ = some (.string l) ∧ B < W.heap.size ∧ b < W.heap.size ∧ Blk W B t cs ∧ Below w.heap.size w W) : Below w.heap.size w W := h.2.2.2.2.2
set_option maxRecDepth 100000 in
set_option maxHeartbeats 16000000 in
theorem rcheck_any (off kd save : Int) (set fmt : ByteArray) (ui : Bool) (uy um dk dw dd asec ab : Int) (A : Option Addr) (L : List RV) (c : Nat) (w : World) (o64 : -9223372036854775808 ≤ off ∧ off ≤ 9223372036854775807) (s64 : -9223372036854775808 ≤ save ∧ save ≤ 9223372036854775807) (hl : L.length ≤ 1000000) (hsv : SvOk L) (hlt : ∀ r ∈ L, r.letter.size ≤ 500000) (hs : fmt.size ≤ 500000) (hR : RulesIn w A L) :
    Calls Tryd.prog 33 #[.agg #[.int .i64 off, .int .i64 kd, .int .i64 save, .string set, .string fmt, .bool ui, .int .i64 uy, .int .i64 um, .int .i64 dk, .int .i64 dw, .int .i64 dd, .int .i64 asec, .int .i64 ab], .slice A L.length c] w fun e w' => e = .returned (.int .i64 (P21.check (P4.bl fmt) off kd save (lets L) (svs L))) ∧ Below w.heap.size w w' := by
  have cK : Hid (∀ W, Calls Tryd.prog 27 #[.string fmt] W fun e w' => e = .returned (.int .i64 (P21.kind (P4.bl fmt))) ∧ Below W.heap.size W w') := fun W => rkind_any fmt W (by omega)
  have cE : Hid (∀ W, RulesIn W A L → Calls Tryd.prog 72 #[.agg #[.int .i64 off, .int .i64 kd, .int .i64 save, .string set, .string fmt, .bool ui, .int .i64 uy, .int .i64 um, .int .i64 dk, .int .i64 dw, .int .i64 dd, .int .i64 asec, .int .i64 ab], .slice A L.length c] W fun e w' => e = .returned (.tuple #[.string (str (P20.expansion kd off save (svs L)).1), .int .i64 (P20.expansion kd off save (svs L)).2]) ∧ Below W.heap.size W w') := fun W h => rexpansion_any off kd save set fmt ui uy um dk dw dd asec ab A L c W o64 s64 hl hsv h
  have cA : Hid (P21.kind (P4.bl fmt) = 3 → ∀ (x : List UInt8) (W : World), x.length ≤ 500000 → Calls Tryd.prog 26 #[.string fmt, .int .i64 0, .agg #[.int .i64 0, .string (str x)]] W fun e w' => (∃ t, e = .returned (.tuple #[.string t, .int .i64 (if P21.abbr ((P21.pct (P4.bl fmt)).1 ++ x ++ (P21.pct (P4.bl fmt)).2.1) = true then 0 else 15)])) ∧ Below W.heap.size W w') := fun hk x W hx => by
    have q := rfabbr_any fmt 0 0 (str x) W hs (by rw [str_size]; exact hx) ⟨by decide, by decide⟩ ⟨by decide, by decide⟩
    rw [show P4.bl (str x) = x from str_data x, abbrv_k3 (two_not3 hk) hk, out2] at q
    exact q.mono fun e w' h => ⟨⟨_, h.1⟩, h.2⟩
  obtain ⟨R, hRR⟩ : ∃ R, P21.check (P4.bl fmt) off kd save (lets L) (svs L) = R := ⟨_, rfl⟩
  rw [hRR]
  rw [check_def] at hRR
  have hkc := P21.kind_cases (P4.bl fmt)
  generalize P21.kind (P4.bl fmt) = K at cK cA hRR hkc
  have HRR := Lib.hid hRR
  clear hRR hsv
  have HLT := Lib.hid hlt
  clear hlt
  have hE := Blk.new w 33 #[.int .i64 off, .int .i64 kd, .int .i64 save, .string set, .string fmt, .bool ui, .int .i64 uy, .int .i64 um, .int .i64 dk, .int .i64 dw, .int .i64 dd, .int .i64 asec, .int .i64 ab]
  have hb0 := (Below.refl w.heap.size w).alloc (Nat.le_refl _) (.cells #[.int .i64 off, .int .i64 kd, .int .i64 save, .string set, .string fmt, .bool ui, .int .i64 uy, .int .i64 um, .int .i64 dk, .int .i64 dw, .int .i64 dd, .int .i64 asec, .int .i64 ab] 33)
  have hli : (L.length : Int) ≤ 1000000 := by omega
  rcases hkc with rfl | rfl | rfl | rfl | rfl | rfl
  · skip
    have HG : Hid (R = 15) := Lib.hid (HRR.out.symm.trans rfl)
    clear HRR cA cE
    go_enter Tryd.func33, Tryd.ntmps33
    go_wp2_with fail
    refine (cK.out _).mono ?_
    rintro e w1 ⟨rfl, hc1⟩
    have hE1 := hE.below hc1 hE.lt
    have hb1 := hb0.trans (hc1.mono hb0.size)
    clear hE hb0 hc1
    clear hE1
    go_wp2_with fail
    go_ret
    exact ⟨by rw [HG.out]; rfl, hb1⟩
  · skip
    have HG : Hid (R = 0) := Lib.hid (HRR.out.symm.trans rfl)
    clear HRR cA cE
    go_enter Tryd.func33, Tryd.ntmps33
    go_wp2_with fail
    refine (cK.out _).mono ?_
    rintro e w1 ⟨rfl, hc1⟩
    have hE1 := hE.below hc1 hE.lt
    have hb1 := hb0.trans (hc1.mono hb0.size)
    clear hE hb0 hc1
    clear hE1
    go_wp2_with fail
    refine wp_loop_rounds 1 ?_
    rw [rounds_succ]
    go_wp2_with fail
    go_ret
    exact ⟨by rw [HG.out]; rfl, hb1⟩
  · skip
    have HG : Hid (R = 0) := Lib.hid (HRR.out.symm.trans rfl)
    clear HRR cA cE
    go_enter Tryd.func33, Tryd.ntmps33
    go_wp2_with fail
    refine (cK.out _).mono ?_
    rintro e w1 ⟨rfl, hc1⟩
    have hE1 := hE.below hc1 hE.lt
    have hb1 := hb0.trans (hc1.mono hb0.size)
    clear hE hb0 hc1
    clear hE1
    go_wp2_with fail
    refine wp_loop_rounds 1 ?_
    rw [rounds_succ]
    go_wp2_with fail
    go_ret
    exact ⟨by rw [HG.out]; rfl, hb1⟩
  · skip
    have CA := Lib.hid (cA.out rfl)
    have CA2 : Hid (∀ (x : List UInt8) (W : World), x.length ≤ 500000 → Calls Tryd.prog 26 #[.string fmt, .int .i64 0, .agg #[.int .i64 0, .string (str x)]] W fun e w' => (∃ t, e = .returned (.tuple #[.string t, .int .i64 (if (fun x => P21.abbr ((P21.pct (P4.bl fmt)).1 ++ x ++ (P21.pct (P4.bl fmt)).2.1)) x = true then 0 else 15)])) ∧ Below W.heap.size W w') := CA
    by_cases hk2 : kd = 2
    · subst hk2
      have HG : Hid ((if ((lets L).all fun x => P21.abbr ((P21.pct (P4.bl fmt)).1 ++ x ++ (P21.pct (P4.bl fmt)).2.1)) = true then (0 : Int) else 15) = R) := Lib.hid (Eq.trans (by rfl) HRR.out)
      clear HRR cA cE CA
      generalize (fun x => P21.abbr ((P21.pct (P4.bl fmt)).1 ++ x ++ (P21.pct (P4.bl fmt)).2.1)) = pr at HG CA2
      go_enter Tryd.func33, Tryd.ntmps33
      go_wp2_with fail
      refine (cK.out _).mono ?_
      rintro e w1 ⟨rfl, hc1⟩
      have hE1 := hE.below hc1 hE.lt
      have hb1 := hb0.trans (hc1.mono hb0.size)
      clear hE hb0 hc1
      have k1 := (hE1.cell 1).trans rfl
      go_wp2_with fail
      clear k1
      go_loopw [8] (fun i wr => ∃ k : Nat, k ≤ L.length ∧ i = .int .i64 (k : Int) ∧ Hid (((lets L).take k).all pr = true) ∧ Blk wr w.heap.size 33 #[.int .i64 off, .int .i64 2, .int .i64 save, .string set, .string fmt, .bool ui, .int .i64 uy, .int .i64 um, .int .i64 dk, .int .i64 dw, .int .i64 dd, .int .i64 asec, .int .i64 ab] ∧ Below w.heap.size w wr) (fun i _ => L.length - (intOf i).toNat)
      case atStart => exact ⟨0, Nat.zero_le _, rfl, Lib.hid rfl, hE1, hb1⟩
      case round =>
        clear hE1 hb1
        obtain ⟨k, hk, rfl, HA, hE, hb⟩ := hrel
        by_cases hlt : k < L.length
        · obtain ⟨r, hr⟩ : ∃ r, L[k]? = some r := ⟨_, List.getElem?_eq_getElem hlt⟩
          have hx : (lets L)[k]? = some (P4.bl r.letter) := by unfold lets; rw [List.getElem?_map, hr]; rfl
          obtain ⟨b, o, rfl, hlb, c0, c1, c2, c3, c4, c5, c6, c7, c8, c9, c10⟩ := (hR.below hb).get k r hr
          have hki : (k : Int) < (L.length : Int) := by omega
          have hlz := HLT.out r (List.mem_of_getElem? hr)
          obtain ⟨nm, fr, tl, mo, rdk, rdw, rdd, sc, bs, sv, lt⟩ := r
          simp only at c0 c1 c2 c3 c4 c5 c6 c7 c8 c9 c10 hx hlz
          have cc := fun W => CA2.out (P4.bl lt) W (by rw [P4.bl_len]; exact hlz)
          rw [show str (P4.bl lt) = lt from str_bl lt] at cc
          have HS := Lib.hid (show wr.cell? ⟨w.heap.size, 4, none⟩ = some (.string fmt) ∧ wr.cell? ⟨b, o + k * 11 + 10, none⟩ = some (.string lt) ∧ w.heap.size < wr.heap.size ∧ b < wr.heap.size ∧ Blk wr w.heap.size 33 #[.int .i64 off, .int .i64 2, .int .i64 save, .string set, .string fmt, .bool ui, .int .i64 uy, .int .i64 um, .int .i64 dk, .int .i64 dw, .int .i64 dd, .int .i64 asec, .int .i64 ab] ∧ Below w.heap.size w wr from ⟨(hE.cell 4).trans rfl, c10, hE.lt, hlb, hE, hb⟩)
          cases hp : pr (P4.bl lt) with
          | true =>
            rw [hp] at cc
            first | rw [if_pos rfl] at cc | rw [if_neg (by simp)] at cc
            have HN := Lib.hid (all_one hx HA.out hp)
            have CC := Lib.hid cc
            clear cc hp hx HA hr hE hb c0 c1 c2 c3 c4 c5 c6 c7 c8 c9
            go_wp2_with fail
            go_region_held3 (fun W => W.cell? ⟨w.heap.size, 4, none⟩ = some (.string fmt) ∧ W.cell? ⟨b, o + k * 11 + 10, none⟩ = some (.string lt) ∧ w.heap.size < W.heap.size ∧ b < W.heap.size ∧ Blk W w.heap.size 33 #[.int .i64 off, .int .i64 2, .int .i64 save, .string set, .string fmt, .bool ui, .int .i64 uy, .int .i64 um, .int .i64 dk, .int .i64 dw, .int .i64 dd, .int .i64 asec, .int .i64 ab] ∧ Below w.heap.size w W) (first | exact keepR ((Below.refl _ _).drew) HS.out | exact keepR (by assumption) (by assumption) | assumption) (first | (go_at_call 26; refine (CC.out _).mono ?_; rintro e w' ⟨⟨t, rfl⟩, hb⟩))
            all_goals
              have hE2 := blkR (by assumption)
              have hb2 := belR (by assumption)
              clear HS CC c10
              go_wp2_with fail
              go_roundw
              case rel => exact ⟨k + 1, by omega, by go_num, HN, hE2, hb2⟩
              case measure => simp [intOf]; omega
          | false =>
            rw [hp] at cc
            first | rw [if_pos rfl] at cc | rw [if_neg (by simp)] at cc
            have HG2 : Hid (R = 15) := Lib.hid (HG.out.symm.trans (if_neg (by rw [all_bad hx hp]; simp)))
            have CC := Lib.hid cc
            clear cc hp hx HA hr hE hb c0 c1 c2 c3 c4 c5 c6 c7 c8 c9
            go_wp2_with fail
            go_region_held3 (fun W => W.cell? ⟨w.heap.size, 4, none⟩ = some (.string fmt) ∧ W.cell? ⟨b, o + k * 11 + 10, none⟩ = some (.string lt) ∧ w.heap.size < W.heap.size ∧ b < W.heap.size ∧ Blk W w.heap.size 33 #[.int .i64 off, .int .i64 2, .int .i64 save, .string set, .string fmt, .bool ui, .int .i64 uy, .int .i64 um, .int .i64 dk, .int .i64 dw, .int .i64 dd, .int .i64 asec, .int .i64 ab] ∧ Below w.heap.size w W) (first | exact keepR ((Below.refl _ _).drew) HS.out | exact keepR (by assumption) (by assumption) | assumption) (first | (go_at_call 26; refine (CC.out _).mono ?_; rintro e w' ⟨⟨t, rfl⟩, hb⟩))
            all_goals
              have hE2 := blkR (by assumption)
              have hb2 := belR (by assumption)
              clear HS CC c10
              go_wp2_with fail
              go_ret
              exact ⟨by rw [HG2.out]; rfl, hb2⟩
        · obtain rfl : k = L.length := by omega
          have hki : ¬ (L.length : Int) < (L.length : Int) := by omega
          have HG2 : Hid (R = 0) := Lib.hid (HG.out.symm.trans (if_pos (by have q := HA.out; rwa [List.take_of_length_le (by unfold lets; rw [List.length_map]; exact Nat.le_refl _)] at q)))
          clear HA HG hE
          go_wp2_with fail
          go_ret
          exact ⟨by rw [HG2.out]; rfl, hb⟩
    · have HG : Hid ((if ([[]].all fun x => P21.abbr ((P21.pct (P4.bl fmt)).1 ++ x ++ (P21.pct (P4.bl fmt)).2.1)) = true then (0 : Int) else 15) = R) := by
        have q := HRR.out
        rw [if_neg hk2] at q
        exact Lib.hid (Eq.trans (by rfl) q)
      have hk3 : (kd != 2) = true := by rw [bne_iff_ne]; exact hk2
      clear HRR cA cE CA hk2
      generalize (fun x => P21.abbr ((P21.pct (P4.bl fmt)).1 ++ x ++ (P21.pct (P4.bl fmt)).2.1)) = pr at HG CA2
      have cc := fun W => CA2.out [] W (Nat.zero_le _)
      have HG3 : Hid ((if pr [] = true then (0 : Int) else 15) = R) := Lib.hid (by rw [← HG.out]; simp)
      clear HG CA2
      rw [HG3.out] at cc
      clear HG3
      have CC := Lib.hid cc
      clear cc
      go_enter Tryd.func33, Tryd.ntmps33
      go_wp2_with fail
      refine (cK.out _).mono ?_
      rintro e w1 ⟨rfl, hc1⟩
      have hE1 := hE.below hc1 hE.lt
      have hb1 := hb0.trans (hc1.mono hb0.size)
      clear hE hb0 hc1
      have k1 := (hE1.cell 1).trans rfl
      have k4 := (hE1.cell 4).trans rfl
      go_wp2_with fail
      refine (CC.out _).mono ?_
      rintro e w2 ⟨⟨t, rfl⟩, hc2⟩
      have hb2 := hb1.trans (hc2.mono hb1.size)
      clear k1 k4 hE1 hb1 hc2
      go_wp2_with fail
      go_ret
      exact ⟨rfl, hb2⟩
  · skip
    have HG : Hid ((if (P20.expansion kd off save (svs L)).2 ≠ 0 ∨ ((4 : Int) = 5 ∧ (P20.expansion kd off save (svs L)).1 ≠ P4.bl fmt) then (15 : Int) else 0) = R) := Lib.hid (Eq.trans (by rfl) HRR.out)
    clear HRR cA HLT
    generalize P20.expansion kd off save (svs L) = X at cE HG
    obtain ⟨xt, xe⟩ := X
    simp only at cE HG
    by_cases hx0 : xe = 0
    · subst hx0
      have HG2 : Hid (R = 0) := Lib.hid (HG.out.symm.trans (if_neg (by simp)))
      clear HG
      go_enter Tryd.func33, Tryd.ntmps33
      go_wp2_with fail
      refine (cK.out _).mono ?_
      rintro e w1 ⟨rfl, hc1⟩
      have hE1 := hE.below hc1 hE.lt
      have hb1 := hb0.trans (hc1.mono hb0.size)
      clear hE hb0 hc1
      have hR1 := hR.below hb1
      have k0 := (hE1.cell 0).trans rfl
      have k1 := (hE1.cell 1).trans rfl
      have k2 := (hE1.cell 2).trans rfl
      have k3 := (hE1.cell 3).trans rfl
      have k4 := (hE1.cell 4).trans rfl
      have k5 := (hE1.cell 5).trans rfl
      have k6 := (hE1.cell 6).trans rfl
      have k7 := (hE1.cell 7).trans rfl
      have k8 := (hE1.cell 8).trans rfl
      have k9 := (hE1.cell 9).trans rfl
      have k10 := (hE1.cell 10).trans rfl
      have k11 := (hE1.cell 11).trans rfl
      have k12 := (hE1.cell 12).trans rfl
      go_wp2_with fail
      refine wp_loop_rounds 1 ?_
      rw [rounds_succ]
      go_wp2_with fail
      refine (cE.out _ hR1).mono ?_
      rintro e w2 ⟨rfl, hc2⟩
      have hb2 := hb1.trans (hc2.mono hb1.size)
      clear k0 k1 k2 k3 k4 k5 k6 k7 k8 k9 k10 k11 k12 hE1 hb1 hR1 cE hc2
      go_wp2_with fail
      go_ret
      exact ⟨by rw [HG2.out]; rfl, hb2⟩
    · have HG2 : Hid (R = 15) := Lib.hid (HG.out.symm.trans (if_pos (.inl hx0)))
      have hxb : (xe != 0) = true := by rw [bne_iff_ne]; exact hx0
      clear HG hx0
      go_enter Tryd.func33, Tryd.ntmps33
      go_wp2_with fail
      refine (cK.out _).mono ?_
      rintro e w1 ⟨rfl, hc1⟩
      have hE1 := hE.below hc1 hE.lt
      have hb1 := hb0.trans (hc1.mono hb0.size)
      clear hE hb0 hc1
      have hR1 := hR.below hb1
      have k0 := (hE1.cell 0).trans rfl
      have k1 := (hE1.cell 1).trans rfl
      have k2 := (hE1.cell 2).trans rfl
      have k3 := (hE1.cell 3).trans rfl
      have k4 := (hE1.cell 4).trans rfl
      have k5 := (hE1.cell 5).trans rfl
      have k6 := (hE1.cell 6).trans rfl
      have k7 := (hE1.cell 7).trans rfl
      have k8 := (hE1.cell 8).trans rfl
      have k9 := (hE1.cell 9).trans rfl
      have k10 := (hE1.cell 10).trans rfl
      have k11 := (hE1.cell 11).trans rfl
      have k12 := (hE1.cell 12).trans rfl
      go_wp2_with fail
      refine wp_loop_rounds 1 ?_
      rw [rounds_succ]
      go_wp2_with fail
      refine (cE.out _ hR1).mono ?_
      rintro e w2 ⟨rfl, hc2⟩
      have hb2 := hb1.trans (hc2.mono hb1.size)
      clear k0 k1 k2 k3 k4 k5 k6 k7 k8 k9 k10 k11 k12 hE1 hb1 hR1 cE hc2
      go_wp2_with fail
      go_ret
      exact ⟨by rw [HG2.out]; rfl, hb2⟩
  · skip
    have HG : Hid ((if (P20.expansion kd off save (svs L)).2 ≠ 0 ∨ ((5 : Int) = 5 ∧ (P20.expansion kd off save (svs L)).1 ≠ P4.bl fmt) then (15 : Int) else 0) = R) := Lib.hid (Eq.trans (by rfl) HRR.out)
    clear HRR cA HLT
    generalize P20.expansion kd off save (svs L) = X at cE HG
    obtain ⟨xt, xe⟩ := X
    simp only at cE HG
    by_cases hx0 : xe = 0
    · subst hx0
      by_cases hx1 : xt = P4.bl fmt
      · have HG2 : Hid (R = 0) := Lib.hid (HG.out.symm.trans (if_neg (by simp [hx1])))
        have hsx : str xt = fmt := by rw [hx1]; exact str_bl fmt
        rw [hsx] at cE
        clear HG hx1 hsx
        go_enter Tryd.func33, Tryd.ntmps33
        go_wp2_with fail
        refine (cK.out _).mono ?_
        rintro e w1 ⟨rfl, hc1⟩
        have hE1 := hE.below hc1 hE.lt
        have hb1 := hb0.trans (hc1.mono hb0.size)
        clear hE hb0 hc1
        have hR1 := hR.below hb1
        have k0 := (hE1.cell 0).trans rfl
        have k1 := (hE1.cell 1).trans rfl
        have k2 := (hE1.cell 2).trans rfl
        have k3 := (hE1.cell 3).trans rfl
        have k4 := (hE1.cell 4).trans rfl
        have k5 := (hE1.cell 5).trans rfl
        have k6 := (hE1.cell 6).trans rfl
        have k7 := (hE1.cell 7).trans rfl
        have k8 := (hE1.cell 8).trans rfl
        have k9 := (hE1.cell 9).trans rfl
        have k10 := (hE1.cell 10).trans rfl
        have k11 := (hE1.cell 11).trans rfl
        have k12 := (hE1.cell 12).trans rfl
        go_wp2_with fail
        refine wp_loop_rounds 1 ?_
        rw [rounds_succ]
        go_wp2_with fail
        refine (cE.out _ hR1).mono ?_
        rintro e w2 ⟨rfl, hc2⟩
        have hE2 := hE1.below hc2 hE1.lt
        have hb2 := hb1.trans (hc2.mono hb1.size)
        clear k0 k1 k2 k3 k4 k5 k6 k7 k8 k9 k10 k11 k12 hE1 hb1 hR1 cE hc2
        have k4 := (hE2.cell 4).trans rfl
        go_wp2_with fail
        go_ret
        exact ⟨by rw [HG2.out]; rfl, hb2⟩
      · have HG2 : Hid (R = 15) := Lib.hid (HG.out.symm.trans (if_pos (.inr ⟨by first | rfl | trivial, hx1⟩)))
        have hne0 : ¬ str xt = fmt := fun q => hx1 (by rw [← q]; exact (str_data xt).symm)
        have hne := eq_b _ _ hne0
        have hne2 := ne_b _ _ hne0
        generalize str xt = ST at cE hne hne2 hne0
        clear HG hx1
        go_enter Tryd.func33, Tryd.ntmps33
        go_wp2_with fail
        refine (cK.out _).mono ?_
        rintro e w1 ⟨rfl, hc1⟩
        have hE1 := hE.below hc1 hE.lt
        have hb1 := hb0.trans (hc1.mono hb0.size)
        clear hE hb0 hc1
        have hR1 := hR.below hb1
        have k0 := (hE1.cell 0).trans rfl
        have k1 := (hE1.cell 1).trans rfl
        have k2 := (hE1.cell 2).trans rfl
        have k3 := (hE1.cell 3).trans rfl
        have k4 := (hE1.cell 4).trans rfl
        have k5 := (hE1.cell 5).trans rfl
        have k6 := (hE1.cell 6).trans rfl
        have k7 := (hE1.cell 7).trans rfl
        have k8 := (hE1.cell 8).trans rfl
        have k9 := (hE1.cell 9).trans rfl
        have k10 := (hE1.cell 10).trans rfl
        have k11 := (hE1.cell 11).trans rfl
        have k12 := (hE1.cell 12).trans rfl
        go_wp2_with fail
        refine wp_loop_rounds 1 ?_
        rw [rounds_succ]
        go_wp2_with fail
        refine (cE.out _ hR1).mono ?_
        rintro e w2 ⟨rfl, hc2⟩
        have hE2 := hE1.below hc2 hE1.lt
        have hb2 := hb1.trans (hc2.mono hb1.size)
        clear k0 k1 k2 k3 k4 k5 k6 k7 k8 k9 k10 k11 k12 hE1 hb1 hR1 cE hc2
        have k4 := (hE2.cell 4).trans rfl
        go_wp2_with fail
        go_ret
        exact ⟨by rw [HG2.out]; rfl, hb2⟩
    · have HG2 : Hid (R = 15) := Lib.hid (HG.out.symm.trans (if_pos (.inl hx0)))
      have hxb : (xe != 0) = true := by rw [bne_iff_ne]; exact hx0
      clear HG hx0
      go_enter Tryd.func33, Tryd.ntmps33
      go_wp2_with fail
      refine (cK.out _).mono ?_
      rintro e w1 ⟨rfl, hc1⟩
      have hE1 := hE.below hc1 hE.lt
      have hb1 := hb0.trans (hc1.mono hb0.size)
      clear hE hb0 hc1
      have hR1 := hR.below hb1
      have k0 := (hE1.cell 0).trans rfl
      have k1 := (hE1.cell 1).trans rfl
      have k2 := (hE1.cell 2).trans rfl
      have k3 := (hE1.cell 3).trans rfl
      have k4 := (hE1.cell 4).trans rfl
      have k5 := (hE1.cell 5).trans rfl
      have k6 := (hE1.cell 6).trans rfl
      have k7 := (hE1.cell 7).trans rfl
      have k8 := (hE1.cell 8).trans rfl
      have k9 := (hE1.cell 9).trans rfl
      have k10 := (hE1.cell 10).trans rfl
      have k11 := (hE1.cell 11).trans rfl
      have k12 := (hE1.cell 12).trans rfl
      go_wp2_with fail
      refine wp_loop_rounds 1 ?_
      rw [rounds_succ]
      go_wp2_with fail
      refine (cE.out _ hR1).mono ?_
      rintro e w2 ⟨rfl, hc2⟩
      have hb2 := hb1.trans (hc2.mono hb1.size)
      clear k0 k1 k2 k3 k4 k5 k6 k7 k8 k9 k10 k11 k12 hE1 hb1 hR1 cE hc2
      go_wp2_with fail
      go_ret
      exact ⟨by rw [HG2.out]; rfl, hb2⟩
end Go.Proofs.YtbajlkpjemandaaDoor
