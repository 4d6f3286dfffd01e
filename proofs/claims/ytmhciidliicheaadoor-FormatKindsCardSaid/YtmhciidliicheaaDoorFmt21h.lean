/- The walk of format.Check (chapter 21). -/
import Derived.Test.YtmhciidliicheaaDoorFmt21f
import Derived.Test.YtmhciidliicheaaDoorNum20h
import Derived.Test.YtmhciidliicheaaDoorNum20g
import Derived.Deep.CutBlock
namespace Go.Proofs.YtmhciidliicheaaDoor
open Go.RowKit Go.Lib
set_option linter.unusedVariables false

def lets (L : List RV) : List (List UInt8) := L.map fun r => P4.bl r.letter
theorem lets_take {L : List RV} {k : Nat} {r : RV} (h : L[k]? = some r) : (lets L).take (k + 1) = (lets L).take k ++ [P4.bl r.letter] := by
  rw [List.take_add_one, show (lets L)[k]? = some (P4.bl r.letter) by unfold lets; rw [List.getElem?_map, h]; rfl]; rfl
/-- the letters of a row of strings -/
structure LetsIn (w : World) (v : Value) (ls : List (List UInt8)) : Prop where
  form : ∃ A cap, v = .slice A ls.length cap ∧ ∀ k x, ls[k]? = some x → ∃ b, A = some ⟨b, 0, none⟩ ∧ b < w.heap.size ∧ w.cell? ⟨b, k, none⟩ = some (.string (str x))
theorem LetsIn.of_own {w : World} {base : Nat} {v : Value} {ls : List (List UInt8)} (h : w.ownsRow base 9 1 v ls.length (svals ls)) : LetsIn w v ls := by
  rcases Nat.eq_zero_or_pos ls.length with q | q
  · rcases h.2 with ⟨rfl, _⟩ | ⟨g, cap, cur, rfl, _⟩
    · refine ⟨none, 0, by rw [q], fun k x hx => ?_⟩
      have := (List.getElem?_eq_some_iff.mp hx).1; omega
    · refine ⟨some ⟨g, 0, none⟩, cap, rfl, fun k x hx => ?_⟩
      have := (List.getElem?_eq_some_iff.mp hx).1; omega
  · obtain ⟨B, cap, rfl, hB0, hB1, hcap, hcs⟩ := own_form h q
    exact ⟨some ⟨B, 0, none⟩, cap, rfl, fun k x hx => ⟨B, rfl, hB1, hcs k _ (by unfold svals; rw [List.getElem?_map, hx]; rfl)⟩⟩
theorem check_def (f : List UInt8) (off kd save : Int) (ls : List (List UInt8)) (sv : List Int) : P21.check f off kd save ls sv = if P21.kind f = 0 then 15 else if P21.kind f = 3 then (if ((if kd = 2 then ls else [[]]).all fun x => P21.abbr ((P21.pct f).1 ++ x ++ (P21.pct f).2.1)) = true then 0 else 15) else if P21.kind f < 4 then 0 else if (P20.expansion kd off save sv).2 ≠ 0 ∨ (P21.kind f = 5 ∧ (P20.expansion kd off save sv).1 ≠ f) then 15 else 0 := rfl
theorem two_not3 {l : List UInt8} (h : P21.kind l = 3) : P21.two l = false := by
  cases q : P21.two l with
  | false => rfl
  | true => rcases two_kind q with q | q <;> rw [h] at q <;> exact absurd q (by decide)
theorem out2 (t : List UInt8) (b : Bool) : (P21.out t b).2 = if b = true then 0 else 15 := by unfold P21.out; cases b <;> rfl
/-- all so far, and one more -/
theorem all_one {α : Type} {p : α → Bool} {l : List α} {k : Nat} {x : α} (h : l[k]? = some x) (ha : (l.take k).all p = true) (hx : p x = true) : (l.take (k + 1)).all p = true := by
  rw [List.take_add_one, h, List.all_append, ha]; simp [hx]
theorem all_bad {α : Type} {p : α → Bool} {l : List α} {k : Nat} {x : α} (h : l[k]? = some x) (hx : p x = false) : l.all p = false := by
  cases q : l.all p with
  | false => rfl
  | true => rw [List.all_eq_true] at q; rw [q x (List.mem_of_getElem? h)] at hx; cases hx

set_option maxRecDepth 100000 in
set_option maxHeartbeats 16000000 in
theorem fcheck_any (off kd save : Int) (set fmt : ByteArray) (ui : Bool) (uy um dk dw dd asec ab : Int) (A : Option Addr) (L : List RV) (c : Nat) (w : World) (o64 : -9223372036854775808 ≤ off ∧ off ≤ 9223372036854775807) (s64 : -9223372036854775808 ≤ save ∧ save ≤ 9223372036854775807) (hl : L.length ≤ 1000000) (hsv : SvOk L) (hlt : ∀ r ∈ L, r.letter.size ≤ 500000) (hs : fmt.size ≤ 500000) (hR : RulesIn w A L) (hv : Vars21 w) :
    Calls Tryd.prog 16 #[.agg #[.int .i64 off, .int .i64 kd, .int .i64 save, .string set, .string fmt, .bool ui, .int .i64 uy, .int .i64 um, .int .i64 dk, .int .i64 dw, .int .i64 dd, .int .i64 asec, .int .i64 ab], .slice A L.length c] w fun e w' => e = .returned (.int .i64 (P21.check (P4.bl fmt) off kd save (lets L) (svs L))) ∧ Below w.heap.size w w' := by
  have cK : Hid (∀ W, Vars21 W → Calls Tryd.prog 18 #[.string fmt] W fun e w' => e = .returned (.int .i64 (P21.kind (P4.bl fmt))) ∧ Below W.heap.size W w') := fun W h => kind_any fmt W (by omega) h
  have cE : Hid (∀ W, RulesIn W A L → Calls Tryd.prog 23 #[.agg #[.int .i64 off, .int .i64 kd, .int .i64 save, .string set, .string fmt, .bool ui, .int .i64 uy, .int .i64 um, .int .i64 dk, .int .i64 dw, .int .i64 dd, .int .i64 asec, .int .i64 ab], .slice A L.length c] W fun e w' => e = .returned (.tuple #[.string (str (P20.expansion kd off save (svs L)).1), .int .i64 (P20.expansion kd off save (svs L)).2]) ∧ Below W.heap.size W w') := fun W h => expansion_any off kd save set fmt ui uy um dk dw dd asec ab A L c W o64 s64 hl hsv h
  have cA : Hid (P21.kind (P4.bl fmt) = 3 → ∀ (x : List UInt8) (W : World), x.length ≤ 500000 → Vars21 W → Calls Tryd.prog 17 #[.string fmt, .int .i64 0, .agg #[.int .i64 0, .string (str x)]] W fun e w' => (∃ t, e = .returned (.tuple #[.string t, .int .i64 (if P21.abbr ((P21.pct (P4.bl fmt)).1 ++ x ++ (P21.pct (P4.bl fmt)).2.1) = true then 0 else 15)])) ∧ Below W.heap.size W w') := fun hk x W hx h => by
    have q := fabbr_any fmt 0 0 (str x) W hs (by rw [str_size]; exact hx) ⟨by decide, by decide⟩ ⟨by decide, by decide⟩ h
    rw [show P4.bl (str x) = x from str_data x, abbrv_k3 (two_not3 hk) hk, out2] at q
    exact q.mono fun e w' h => ⟨⟨_, h.1⟩, h.2⟩
  obtain ⟨R, hRR⟩ : ∃ R, P21.check (P4.bl fmt) off kd save (lets L) (svs L) = R := ⟨_, rfl⟩
  rw [hRR]
  rw [check_def] at hRR
  have hkc := P21.kind_cases (P4.bl fmt)
  generalize P21.kind (P4.bl fmt) = K at cK cA hRR hkc
  generalize hls : (if kd = 2 then lets L else [[]]) = LS at hRR
  have HLS := Lib.hid hls
  clear hls
  have HRR := Lib.hid hRR
  clear hRR
  have HLT := Lib.hid hlt
  have HKC := Lib.hid hkc
  clear hlt hkc hsv
  have hE := (Blk.new w 33 #[.int .i64 off, .int .i64 kd, .int .i64 save, .string set, .string fmt, .bool ui, .int .i64 uy, .int .i64 um, .int .i64 dk, .int .i64 dw, .int .i64 dd, .int .i64 asec, .int .i64 ab]).alloc (.cells #[.string ⟨#[]⟩] 9)
  have hN := Blk.newAt (w.alloc (.cells #[.int .i64 off, .int .i64 kd, .int .i64 save, .string set, .string fmt, .bool ui, .int .i64 uy, .int .i64 um, .int .i64 dk, .int .i64 dw, .int .i64 dd, .int .i64 asec, .int .i64 ab] 33)) (w.heap.size + 1) (by simp) 9 #[.string ⟨#[]⟩]
  have hb0 := ((Below.refl w.heap.size w).alloc (Nat.le_refl _) (.cells #[.int .i64 off, .int .i64 kd, .int .i64 save, .string set, .string fmt, .bool ui, .int .i64 uy, .int .i64 um, .int .i64 dk, .int .i64 dw, .int .i64 dd, .int .i64 asec, .int .i64 ab] 33)).alloc (by simp) (.cells #[.string ⟨#[]⟩] 9)
  have hli : (L.length : Int) ≤ 1000000 := by omega
  go_enter Tryd.func16, Tryd.ntmps16
  go_upto_if 18 with (fail)
  go_cut [5] (fun s5 wx => LetsIn wx s5 LS ∧ Blk wx w.heap.size 33 #[.int .i64 off, .int .i64 kd, .int .i64 save, .string set, .string fmt, .bool ui, .int .i64 uy, .int .i64 um, .int .i64 dk, .int .i64 dw, .int .i64 dd, .int .i64 asec, .int .i64 ab] ∧ Below w.heap.size w wx)
  case first =>
    by_cases hk2 : kd = 2
    · subst hk2
      have hO : ((w.alloc (.cells #[.int .i64 off, .int .i64 2, .int .i64 save, .string set, .string fmt, .bool ui, .int .i64 uy, .int .i64 um, .int .i64 dk, .int .i64 dw, .int .i64 dd, .int .i64 asec, .int .i64 ab] 33)).alloc (.cells #[.string ⟨#[]⟩] 9)).ownsRow (w.heap.size + 1) 9 1 (.slice none 0 0) ((lets L).take 0).length (svals ((lets L).take 0)) := ⟨rfl, .inl ⟨rfl, rfl⟩⟩
      generalize (w.alloc (.cells #[.int .i64 off, .int .i64 2, .int .i64 save, .string set, .string fmt, .bool ui, .int .i64 uy, .int .i64 um, .int .i64 dk, .int .i64 dw, .int .i64 dd, .int .i64 asec, .int .i64 ab] 33)).alloc (.cells #[.string ⟨#[]⟩] 9) = W0 at hE hN hb0 hO ⊢
      clear hN cK cE cA HRR HKC
      go_wp2_with fail
      go_loopw [5, 21] (fun v i wr => ∃ k : Nat, k ≤ L.length ∧ i = .int .i64 (k : Int) ∧ wr.ownsRow (w.heap.size + 1) 9 1 v k (svals ((lets L).take k)) ∧ Blk wr w.heap.size 33 #[.int .i64 off, .int .i64 2, .int .i64 save, .string set, .string fmt, .bool ui, .int .i64 uy, .int .i64 um, .int .i64 dk, .int .i64 dw, .int .i64 dd, .int .i64 asec, .int .i64 ab] ∧ Below w.heap.size w wr) (fun _ i _ => L.length - (intOf i).toNat)
      case atStart => exact ⟨0, Nat.zero_le _, rfl, hO, hE, hb0⟩
      case round =>
        clear hO hE hb0
        obtain ⟨k, hk, rfl, hO, hE, hb⟩ := hrel
        by_cases hlt : k < L.length
        · obtain ⟨r, hr⟩ : ∃ r, L[k]? = some r := ⟨_, List.getElem?_eq_getElem hlt⟩
          have HT := Lib.hid (lets_take hr)
          obtain ⟨b, o, rfl, hlb, c0, c1, c2, c3, c4, c5, c6, c7, c8, c9, c10⟩ := (hR.below hb).get k r hr
          have hki : (k : Int) < (L.length : Int) := by omega
          obtain ⟨nm, fr, tl, mo, rdk, rdw, rdd, sc, bs, sv, lt⟩ := r
          simp only at c0 c1 c2 c3 c4 c5 c6 c7 c8 c9 c10 HT
          have hNB : Hid (Blk ((wr.alloc (.cells #[.string nm, .int .i64 fr, .int .i64 tl, .int .i64 mo, .int .i64 rdk, .int .i64 rdw, .int .i64 rdd, .int .i64 sc, .int .i64 bs, .int .i64 sv, .string lt] 38)).alloc (.cells #[.string lt] 9)) (wr.heap.size + 1) 9 #[.string lt]) := Lib.hid (Blk.newAt (wr.alloc (.cells #[.string nm, .int .i64 fr, .int .i64 tl, .int .i64 mo, .int .i64 rdk, .int .i64 rdw, .int .i64 rdd, .int .i64 sc, .int .i64 bs, .int .i64 sv, .string lt] 38)) (wr.heap.size + 1) (by simp) 9 #[.string lt])
          have HO := Lib.hid ((hO.alloc (.cells #[.string nm, .int .i64 fr, .int .i64 tl, .int .i64 mo, .int .i64 rdk, .int .i64 rdw, .int .i64 rdd, .int .i64 sc, .int .i64 bs, .int .i64 sv, .string lt] 38)).alloc (.cells #[.string lt] 9))
          have HE := Lib.hid ((hE.alloc (.cells #[.string nm, .int .i64 fr, .int .i64 tl, .int .i64 mo, .int .i64 rdk, .int .i64 rdw, .int .i64 rdd, .int .i64 sc, .int .i64 bs, .int .i64 sv, .string lt] 38)).alloc (.cells #[.string lt] 9))
          have HB := Lib.hid ((hb.alloc hb.size (.cells #[.string nm, .int .i64 fr, .int .i64 tl, .int .i64 mo, .int .i64 rdk, .int .i64 rdw, .int .i64 rdd, .int .i64 sc, .int .i64 bs, .int .i64 sv, .string lt] 38)).alloc (by simp; have := hb.size; omega) (.cells #[.string lt] 9))
          have HZ := Lib.hid (show w.heap.size + 1 ≤ ((wr.alloc (.cells #[.string nm, .int .i64 fr, .int .i64 tl, .int .i64 mo, .int .i64 rdk, .int .i64 rdw, .int .i64 rdd, .int .i64 sc, .int .i64 bs, .int .i64 sv, .string lt] 38)).alloc (.cells #[.string lt] 9)).heap.size from Nat.succ_le_of_lt HE.out.lt)
          obtain ⟨i0, hi, hz0, hz1, hz2⟩ := info_parts infoStr
          have HAL := Lib.hid (show k ≤ 1000000 by omega)
          clear hO hE hb hr
          go_wp2_with (at_builtin; refine wpList_append_own _ rfl _ _ 54 rfl (w.heap.size + 1) 9 i0 (.string ⟨#[]⟩) 1 16 Tryd.underlying54 hi hz0 hz1 hz2 rfl (by decide) _ _ _ rfl HO.out ⟨wr.heap.size + 1, 0, none⟩ 1 1 [.string lt] rfl rfl (blk_cells hNB.out) (by simp [Value.oneCell']) (by have := HAL.out; simp only [maxLen]; omega) (by have := HAL.out; omega) HZ.out ?_)
          intro v1 wa hown hgr hne
          have hb3 := own_grown HB.out HO.out hgr HB.out.size (Nat.le_succ _)
          have hE3 := blk_grown HE.out HO.out hgr (Nat.lt_succ_self _)
          have hO3 : wa.ownsRow (w.heap.size + 1) 9 1 v1 (k + 1) (svals ((lets L).take (k + 1))) := by
            rw [HT.out, svals_snoc, show str (P4.bl lt) = lt from str_bl lt]; exact hown
          clear hgr hne HO HE HB hNB hown HZ
          go_wp2_with fail
          go_roundw
          case rel => exact ⟨k + 1, by omega, by go_num, hO3, hE3, hb3⟩
          case measure => simp [intOf]; omega
        · obtain rfl : k = L.length := by omega
          have hki : ¬ (L.length : Int) < (L.length : Int) := by omega
          have hll : (lets L).length = L.length := List.length_map _
          rw [List.take_of_length_le (by omega), ← hll] at hO
          have hLS := LetsIn.of_own hO
          rw [show lets L = LS by have q := HLS.out; simpa using q] at hLS
          have HLN := Lib.hid hLS
          clear hO hLS hll
          go_wp2_with fail
          go_meet
          exact ⟨HLN.out, hE, hb⟩
    · have hk3 : (kd == 2) = false := by rw [beq_eq_false_iff_ne]; exact hk2
      have HLN : Hid (LetsIn ((w.alloc (.cells #[.int .i64 off, .int .i64 kd, .int .i64 save, .string set, .string fmt, .bool ui, .int .i64 uy, .int .i64 um, .int .i64 dk, .int .i64 dw, .int .i64 dd, .int .i64 asec, .int .i64 ab] 33)).alloc (.cells #[.string ⟨#[]⟩] 9)) (.slice (some ⟨w.heap.size + 1, 0, none⟩) 1 1) LS) := by
        rw [← HLS.out, if_neg hk2]
        refine Lib.hid ⟨_, _, rfl, fun k x hx => ⟨_, rfl, hN.lt, ?_⟩⟩
        match k, hx with
        | 0, hx => injection hx with hx; rw [← hx]; exact (hN.cell 0).trans rfl
      clear hN hk2
      go_wp2_with fail
      go_meet
      exact ⟨HLN.out, hE, hb0⟩
  case rest =>
    clear hE hN hb0
    obtain ⟨hLt, hE, hb⟩ := hcut
    have HSZ : Hid (∀ x ∈ LS, x.length ≤ 500000) := Lib.hid fun x hx => by
      rw [← HLS.out] at hx
      split at hx
      · obtain ⟨r, hr, rfl⟩ := List.mem_map.1 hx
        rw [P4.bl_len]; exact HLT.out r hr
      · rw [List.mem_singleton] at hx; rw [hx]; exact Nat.zero_le _
    obtain ⟨⟨A2, cap, rfl, hLc⟩⟩ := hLt
    have HLC := Lib.hid hLc
    have hLl : LS.length ≤ 1000000 := by
      rw [← HLS.out]
      split
      · unfold lets; rw [List.length_map]; exact hl
      · simp
    clear hLc HLS HLT
    have hv1 := hv.below hb
    have k4 := (hE.cell 4).trans rfl
    go_wp2_with fail
    refine (cK.out _ hv1).mono ?_
    rintro e w1 ⟨rfl, hc1⟩
    have hE1 := hE.below hc1 hE.lt
    have hb1 := hb.trans (hc1.mono hb.size)
    have hLc1 : ∀ (k : Nat) (x : List UInt8), LS[k]? = some x → ∃ b, A2 = some ⟨b, 0, none⟩ ∧ b < w1.heap.size ∧ w1.cell? ⟨b, k, none⟩ = some (.string (str x)) := fun k x hx => by
      obtain ⟨b, h1, h2, h3⟩ := HLC.out k x hx
      exact ⟨b, h1, Nat.lt_of_lt_of_le h2 hc1.size, (hc1.cell (p := ⟨b, k, none⟩) h2).trans h3⟩
    have HLC1 := Lib.hid hLc1
    clear HLC hLc1 k4 hv1 hE hb hc1 cK
    rcases HKC.out with rfl | rfl | rfl | rfl | rfl | rfl
    · skip
      have HG : Hid (R = 15) := Lib.hid (HRR.out.symm.trans rfl)
      clear HRR cA cE HLC1 HKC
      go_wp2_with fail
      go_ret
      exact ⟨by rw [HG.out]; rfl, hb1⟩
    · skip
      have HG : Hid (R = 0) := Lib.hid (HRR.out.symm.trans rfl)
      clear HRR cA cE HLC1 HKC
      go_wp2_with fail
      go_ret
      exact ⟨by rw [HG.out]; rfl, hb1⟩
    · skip
      have HG : Hid (R = 0) := Lib.hid (HRR.out.symm.trans rfl)
      clear HRR cA cE HLC1 HKC
      go_wp2_with fail
      go_ret
      exact ⟨by rw [HG.out]; rfl, hb1⟩
    · skip
      have HG : Hid ((if (LS.all fun x => P21.abbr ((P21.pct (P4.bl fmt)).1 ++ x ++ (P21.pct (P4.bl fmt)).2.1)) = true then (0 : Int) else 15) = R) := Lib.hid (Eq.trans (by rfl) HRR.out)
      have CA := Lib.hid (cA.out rfl)
      clear HRR cA cE HKC
      have CA2 : Hid (∀ (x : List UInt8) (W : World), x.length ≤ 500000 → Vars21 W → Calls Tryd.prog 17 #[.string fmt, .int .i64 0, .agg #[.int .i64 0, .string (str x)]] W fun e w' => (∃ t, e = .returned (.tuple #[.string t, .int .i64 (if (fun x => P21.abbr ((P21.pct (P4.bl fmt)).1 ++ x ++ (P21.pct (P4.bl fmt)).2.1)) x = true then 0 else 15)])) ∧ Below W.heap.size W w') := CA
      clear CA
      generalize (fun x => P21.abbr ((P21.pct (P4.bl fmt)).1 ++ x ++ (P21.pct (P4.bl fmt)).2.1)) = pr at HG CA2
      have hLli : (LS.length : Int) ≤ 1000000 := by omega
      obtain ⟨N, hN⟩ : ∃ N, LS.length = N := ⟨_, rfl⟩
      rw [hN] at hLli hLl ⊢
      have HN := Lib.hid hN
      clear hN
      go_wp2_with fail
      go_loopw [41] (fun i wr => ∃ k : Nat, k ≤ N ∧ i = .int .i64 (k : Int) ∧ Hid ((LS.take k).all pr = true) ∧ Hid (∀ (k : Nat) (x : List UInt8), LS[k]? = some x → ∃ b, A2 = some ⟨b, 0, none⟩ ∧ b < wr.heap.size ∧ wr.cell? ⟨b, k, none⟩ = some (.string (str x))) ∧ Blk wr w.heap.size 33 #[.int .i64 off, .int .i64 kd, .int .i64 save, .string set, .string fmt, .bool ui, .int .i64 uy, .int .i64 um, .int .i64 dk, .int .i64 dw, .int .i64 dd, .int .i64 asec, .int .i64 ab] ∧ Below w.heap.size w wr) (fun i _ => N - (intOf i).toNat)
      case atStart => exact ⟨0, Nat.zero_le _, rfl, Lib.hid rfl, HLC1, hE1, hb1⟩
      case round =>
        clear HLC1 hE1 hb1
        obtain ⟨k, hk, rfl, HA, HLC, hE, hb⟩ := hrel
        by_cases hlt : k < N
        · obtain ⟨x, hx⟩ : ∃ x, LS[k]? = some x := ⟨_, List.getElem?_eq_getElem (by rw [HN.out]; exact hlt)⟩
          obtain ⟨b, rfl, hbl, ck⟩ := HLC.out k x hx
          have hki : (k : Int) < (N : Int) := by omega
          have k4 := (hE.cell 4).trans rfl
          have hv2 := hv.below hb
          have c1 := CA2.out x _ (HSZ.out x (List.mem_of_getElem? hx)) hv2
          cases hp : pr x with
          | true =>
            rw [hp] at c1
            first | rw [if_pos rfl] at c1 | rw [if_neg (by simp)] at c1
            have HS := Lib.hid (all_one hx HA.out hp)
            generalize str x = SX at ck c1
            have C1 := Lib.hid c1
            clear c1 hv2 hp hx HA
            go_wp2_with fail
            refine C1.out.mono ?_
            rintro e w2 ⟨⟨t, rfl⟩, hc2⟩
            have hb2 := hb.trans (hc2.mono hb.size)
            have hE2 := hE.below hc2 hE.lt
            have HLC2 : Hid (∀ (k : Nat) (x : List UInt8), LS[k]? = some x → ∃ b', some (⟨b, 0, none⟩ : Addr) = some ⟨b', 0, none⟩ ∧ b' < w2.heap.size ∧ w2.cell? ⟨b', k, none⟩ = some (.string (str x))) := Lib.hid fun k x hx => by
              obtain ⟨b', h1, h2, h3⟩ := HLC.out k x hx
              exact ⟨b', h1, Nat.lt_of_lt_of_le h2 hc2.size, (hc2.cell (p := ⟨b', k, none⟩) h2).trans h3⟩
            clear C1 hE hb hc2 HLC k4 ck
            go_wp2_with fail
            go_roundw
            case rel => exact ⟨k + 1, by omega, by go_num, HS, HLC2, hE2, hb2⟩
            case measure => simp [intOf]; omega
          | false =>
            rw [hp] at c1
            first | rw [if_pos rfl] at c1 | rw [if_neg (by simp)] at c1
            have HG2 : Hid (R = 15) := Lib.hid (HG.out.symm.trans (if_neg (by rw [all_bad hx hp]; simp)))
            generalize str x = SX at ck c1
            have C1 := Lib.hid c1
            clear c1 hv2 hp hx HA
            go_wp2_with fail
            refine C1.out.mono ?_
            rintro e w2 ⟨⟨t, rfl⟩, hc2⟩
            have hb2 := hb.trans (hc2.mono hb.size)
            clear C1 hE hb hc2 HLC k4 ck
            go_wp2_with fail
            go_ret
            exact ⟨by rw [HG2.out]; rfl, hb2⟩
        · obtain rfl : k = N := by omega
          have hki : ¬ (k : Int) < (k : Int) := by omega
          have HG2 : Hid (R = 0) := Lib.hid (HG.out.symm.trans (if_pos (by have q := HA.out; rwa [List.take_of_length_le (by rw [HN.out]; exact Nat.le_refl _)] at q)))
          clear HLC HA HG hE
          go_wp2_with fail
          go_ret
          exact ⟨by rw [HG2.out]; rfl, hb⟩
    · skip
      have HG : Hid ((if (P20.expansion kd off save (svs L)).2 ≠ 0 ∨ ((4 : Int) = 5 ∧ (P20.expansion kd off save (svs L)).1 ≠ P4.bl fmt) then (15 : Int) else 0) = R) := Lib.hid (Eq.trans (by rfl) HRR.out)
      have hR1 := hR.below hb1
      clear HRR cA HKC HLC1 HSZ
      generalize P20.expansion kd off save (svs L) = X at cE HG
      obtain ⟨xt, xe⟩ := X
      simp only at cE HG
      have k0 := (hE1.cell 0).trans rfl
      have k1 := (hE1.cell 1).trans rfl
      have k2 := (hE1.cell 2).trans rfl
      have k3 := (hE1.cell 3).trans rfl
      have k4 := (hE1.cell 4).trans rfl
      have k5 := (hE1.cell 5).trans rfl
      have k6 := (hE1.cell 6).trans rfl
      have k7 := (hE1.cell 7).trans rfl
      have k8 := (hE1.cell 8).trans rfl
      have k9 := (hE1.cell 9).trans rfl
      have k10 := (hE1.cell 10).trans rfl
      have k11 := (hE1.cell 11).trans rfl
      have k12 := (hE1.cell 12).trans rfl
      by_cases hx0 : xe = 0
      · subst hx0
        have HG2 : Hid (R = 0) := Lib.hid (HG.out.symm.trans (if_neg (by simp)))
        clear HG
        go_wp2_with fail
        refine (cE.out _ hR1).mono ?_
        rintro e w2 ⟨rfl, hc2⟩
        have hb2 := hb1.trans (hc2.mono hb1.size)
        clear k0 k1 k2 k3 k4 k5 k6 k7 k8 k9 k10 k11 k12 hE1 hb1 hR1 cE hc2
        go_wp2_with fail
        go_ret
        exact ⟨by rw [HG2.out]; rfl, hb2⟩
      · have HG2 : Hid (R = 15) := Lib.hid (HG.out.symm.trans (if_pos (.inl hx0)))
        have hxb : (xe != 0) = true := by rw [bne_iff_ne]; exact hx0
        clear HG hx0
        go_wp2_with fail
        refine (cE.out _ hR1).mono ?_
        rintro e w2 ⟨rfl, hc2⟩
        have hb2 := hb1.trans (hc2.mono hb1.size)
        clear k0 k1 k2 k3 k4 k5 k6 k7 k8 k9 k10 k11 k12 hE1 hb1 hR1 cE hc2
        go_wp2_with fail
        go_ret
        exact ⟨by rw [HG2.out]; rfl, hb2⟩
    · skip
      have HG : Hid ((if (P20.expansion kd off save (svs L)).2 ≠ 0 ∨ ((5 : Int) = 5 ∧ (P20.expansion kd off save (svs L)).1 ≠ P4.bl fmt) then (15 : Int) else 0) = R) := Lib.hid (Eq.trans (by rfl) HRR.out)
      have hR1 := hR.below hb1
      clear HRR cA HKC HLC1 HSZ
      generalize P20.expansion kd off save (svs L) = X at cE HG
      obtain ⟨xt, xe⟩ := X
      simp only at cE HG
      have k0 := (hE1.cell 0).trans rfl
      have k1 := (hE1.cell 1).trans rfl
      have k2 := (hE1.cell 2).trans rfl
      have k3 := (hE1.cell 3).trans rfl
      have k4 := (hE1.cell 4).trans rfl
      have k5 := (hE1.cell 5).trans rfl
      have k6 := (hE1.cell 6).trans rfl
      have k7 := (hE1.cell 7).trans rfl
      have k8 := (hE1.cell 8).trans rfl
      have k9 := (hE1.cell 9).trans rfl
      have k10 := (hE1.cell 10).trans rfl
      have k11 := (hE1.cell 11).trans rfl
      have k12 := (hE1.cell 12).trans rfl
      by_cases hx0 : xe = 0
      · subst hx0
        by_cases hx1 : xt = P4.bl fmt
        · have HG2 : Hid (R = 0) := Lib.hid (HG.out.symm.trans (if_neg (by simp [hx1])))
          have hsx : str xt = fmt := by rw [hx1]; exact str_bl fmt
          rw [hsx] at cE
          clear HG hx1 hsx
          go_wp2_with fail
          refine (cE.out _ hR1).mono ?_
          rintro e w2 ⟨rfl, hc2⟩
          have hE2 := hE1.below hc2 hE1.lt
          have hb2 := hb1.trans (hc2.mono hb1.size)
          clear k0 k1 k2 k3 k4 k5 k6 k7 k8 k9 k10 k11 k12 hE1 hb1 hR1 cE hc2
          have k4 := (hE2.cell 4).trans rfl
          go_wp2_with fail
          go_ret
          exact ⟨by rw [HG2.out]; rfl, hb2⟩
        · have HG2 : Hid (R = 15) := Lib.hid (HG.out.symm.trans (if_pos (.inr ⟨by first | rfl | trivial, hx1⟩)))
          have hne0 : ¬ str xt = fmt := fun q => hx1 (by rw [← q]; exact (str_data xt).symm)
          have hne := eq_b _ _ hne0
          have hne2 := ne_b _ _ hne0
          generalize str xt = ST at cE hne hne2 hne0
          clear HG hx1
          go_wp2_with fail
          refine (cE.out _ hR1).mono ?_
          rintro e w2 ⟨rfl, hc2⟩
          have hE2 := hE1.below hc2 hE1.lt
          have hb2 := hb1.trans (hc2.mono hb1.size)
          clear k0 k1 k2 k3 k4 k5 k6 k7 k8 k9 k10 k11 k12 hE1 hb1 hR1 cE hc2
          have k4 := (hE2.cell 4).trans rfl
          go_wp2_with fail
          go_ret
          exact ⟨by rw [HG2.out]; rfl, hb2⟩
      · have HG2 : Hid (R = 15) := Lib.hid (HG.out.symm.trans (if_pos (.inl hx0)))
        have hxb : (xe != 0) = true := by rw [bne_iff_ne]; exact hx0
        clear HG hx0
        go_wp2_with fail
        refine (cE.out _ hR1).mono ?_
        rintro e w2 ⟨rfl, hc2⟩
        have hb2 := hb1.trans (hc2.mono hb1.size)
        clear k0 k1 k2 k3 k4 k5 k6 k7 k8 k9 k10 k11 k12 hE1 hb1 hR1 cE hc2
        go_wp2_with fail
        go_ret
        exact ⟨by rw [HG2.out]; rfl, hb2⟩
end Go.Proofs.YtmhciidliicheaaDoor
