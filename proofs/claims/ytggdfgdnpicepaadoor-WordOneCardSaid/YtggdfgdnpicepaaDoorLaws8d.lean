/- The law WordBack (chapter 8), walked. -/
import Derived.Test.YtggdfgdnpicepaaDoorLaws8c
import Derived.Deep.RegionHeld3
namespace Go.Proofs.YtggdfgdnpicepaaDoor
open Go.RowKit Go.Proofs
set_option linter.unusedVariables false
set_option linter.unusedSimpArgs false

/-- how many of the first k words begin with these letters, beside this one -/
def othersTo (L : List (List UInt8)) (i n k : Nat) : Nat := ((List.range k).filter fun k => k != i && decide (n ≤ (P8.word L k).length) && ((P8.word L k).take n == (P8.word L i).take n)).length
theorem othersTo_zero (L i n) : othersTo L i n 0 = 0 := rfl
theorem othersTo_all (L : List (List UInt8)) (i n : Nat) : othersTo L i n L.length = P8.others L i n := rfl
theorem othersTo_succ (L : List (List UInt8)) (i n k : Nat) : othersTo L i n (k + 1) = othersTo L i n k + if (k != i && decide (n ≤ (P8.word L k).length) && ((P8.word L k).take n == (P8.word L i).take n)) = true then 1 else 0 := by
  unfold othersTo
  rw [List.range_succ, List.filter_append, List.length_append, List.filter_cons, List.filter_nil]
  split <;> rfl
theorem othersTo_le (L i n) (k : Nat) : othersTo L i n k ≤ k := Nat.le_trans (List.length_filter_le _ _) (by simp)
/-- in any case this is the word -/
def Cased (w : List UInt8) (X : ByteArray) : Prop := X.data.toList.map P8.low = w ∧ X.size ≤ 1000000
theorem cased_call (l : List UInt8) (S : ByteArray) (hS : S = str l) (bits : Int) (hs : l.length ≤ 1000000) (hb : 0 ≤ bits ∧ bits ≤ 65535) (hl : ∀ c ∈ l, 97 ≤ c ∧ c ≤ 122) (W : World) :
    Calls Tryd.prog 39 #[.string S, .int .u16 bits] W fun e w' => ∃ X, e = .returned (.string X) ∧ Cased l X ∧ Below W.heap.size W w' := by
  subst hS
  refine (cased_any l bits W hs hb).mono ?_
  rintro e w' ⟨bs, rfl, h⟩
  exact ⟨_, rfl, ⟨by rw [str_data]; exact low_upTo bs l hl, by rw [str_size, List.length_mapIdx]; exact hs⟩, h⟩
/-- the copy of an entry of the lists, and its words -/
structure Box8 (w W : World) (Bx g : Nat) (L : List (List UInt8)) (f : Nat) (first : Int) : Prop where
  box : Blk W Bx 77 #[.slice (some ⟨g, 0, none⟩) L.length L.length, .func (.func f) #[] #[], .int .i64 first]
  words : Rd W g (wcells L)
  bel : Below w.heap.size w W
theorem Box8.below {w W W' : World} {Bx g : Nat} {L : List (List UInt8)} {f : Nat} {first : Int} (h : Box8 w W Bx g L f first) (hb : Below W.heap.size W W') : Box8 w W' Bx g L f first := ⟨h.box.below hb h.box.lt, h.words.belowS hb, h.bel.trans (hb.mono h.bel.size)⟩
theorem Box8.drewN {w W : World} {Bx g : Nat} {L : List (List UInt8)} {f : Nat} {first : Int} (h : Box8 w W Bx g L f first) (n : Nat) : Box8 w (W.drewN n) Bx g L f first := ⟨h.box.drewN n, h.words, below_drewN h.bel n⟩
set_option maxRecDepth 100000 in
set_option maxHeartbeats 8000000 in
theorem walkWordBack (a0 a1 a2 bits : Int) (w : World) (h0 : (Lit.int .u8 a0).wf = true) (h1 : (Lit.int .u8 a1).wf = true) (h2 : (Lit.int .u8 a2).wf = true) (h3 : (Lit.int .u16 bits).wf = true) (hv : Vars8 w) :
    Calls Tryd.prog 10 #[.int .u8 a0, .int .u8 a1, .int .u8 a2, .int .u16 bits] w fun e w' => e = .returned (.bool true) ∧ Below w.heap.size w w' := by
  have b0 := u8_bounds h0
  have b1 := u8_bounds h1
  have b2 := u8_bounds h2
  have b3 := u16_bounds h3
  clear h0 h1 h2 h3
  obtain ⟨k, hk, m0⟩ := rest_of (m := 4) b0 (by decide)
  have M0 := Lib.hid m0
  clear m0
  have hq := listOf_mem k hk
  have hfo := firstOf_le k
  have hfind := fun (s : ByteArray) W hs hv => find_call k hk s W hs hv
  have hent := fn_enters k hk
  have hlen := listOf_len k hk
  have LS : Hid (∀ W B g, Lists W B g → W.cell? ⟨B, k * 3, none⟩ = some (.slice (some ⟨g + k, 0, none⟩) (listOf k).length (listOf k).length) ∧ W.cell? ⟨B, k * 3 + 1, none⟩ = some (.func (.func (fnOf k)) #[] #[]) ∧ W.cell? ⟨B, k * 3 + 2, none⟩ = some (.int .i64 (firstOf k)) ∧ Rd W (g + k) (wcells (listOf k))) := Lib.hid (fun W B g h => h k hk)
  generalize hL : listOf k = L at hq hfind hlen LS
  generalize hF : firstOf k = first at hq hfind hfo LS
  generalize hN : fnOf k = f at hfind hent LS
  clear hL hF hN
  obtain ⟨i, hi, m1⟩ := rest_of (m := L.length) b1 ⟨hlen.1, by omega⟩
  have M1 := Lib.hid m1
  clear m1
  have hwl := P8.word_len _ hq i hi
  have hws := low_word hq hi
  have hbk := fun n hn => P8.back_fact _ hq i hi n hn
  have hwl2 := fun (k : Nat) (hk : k < L.length) => (P8.word_len _ hq k hk).2
  simp only [P8.backAt] at hwl hws hbk hwl2
  obtain ⟨Wd, hWd⟩ : ∃ Wd, P8.word L i = Wd := ⟨_, rfl⟩
  rw [hWd] at hwl hws hbk
  obtain ⟨j, hj, m2⟩ := rest_of (m := Wd.length) b2 ⟨by omega, by omega⟩
  have M2 := Lib.hid m2
  clear m2
  obtain ⟨n, hn⟩ : ∃ n, j + 1 = n := ⟨_, rfl⟩
  have hB := hbk n (by omega) (by omega) (by omega)
  have hn9 : n ≤ Wd.length := by omega
  have hWl : Wd.length ≤ 9 := hwl.2
  -- what is found
  have hF1 : ∀ X W, Cased (Wd.take n) X → Vars8 W → Calls Tryd.prog f #[.string X] W fun e w' => e = .returned (.tuple #[.int .i64 (if (P8.find (Wd.take n) L).2 = true then first + (P8.find (Wd.take n) L).1 else 0), .int .i64 (if (P8.find (Wd.take n) L).2 = true then 0 else 8)]) ∧ Below W.heap.size W w' := fun X W hX h => by
    have q := hfind X W hX.2 h
    rw [num_pair, hX.1] at q
    split at q
    · rename_i hh; rw [if_pos hh, if_pos hh]; exact q
    · rename_i hh; rw [if_neg hh, if_neg hh]; exact q
  have hF2 : ∀ X W, Cased Wd X → Vars8 W → Calls Tryd.prog f #[.string X] W fun e w' => e = .returned (.tuple #[.int .i64 (if (P8.find Wd L).2 = true then first + (P8.find Wd L).1 else 0), .int .i64 (if (P8.find Wd L).2 = true then 0 else 8)]) ∧ Below W.heap.size W w' := fun X W hX h => by
    have q := hfind X W hX.2 h
    rw [num_pair, hX.1] at q
    split at q
    · rename_i hh; rw [if_pos hh, if_pos hh]; exact q
    · rename_i hh; rw [if_neg hh, if_neg hh]; exact q
  have hC1 := fun W => cased_call (Wd.take n) ((str Wd).extract 0 n) (str_cut Wd 0 n) bits (by simp; omega) b3 (fun c hc => hws c (List.mem_of_mem_take hc)) W
  have hC2 := fun W => cased_call Wd (str Wd) rfl bits (by omega) b3 hws W
  obtain ⟨O, hO⟩ : ∃ O, P8.others L i n = O := ⟨_, rfl⟩
  rw [hO] at hB
  have hO12 : O ≤ 12 := by rw [← hO, ← othersTo_all]; exact Nat.le_trans (othersTo_le L i n L.length) hlen.2
  generalize hg1 : (if (P8.find (Wd.take n) L).2 = true then first + (P8.find (Wd.take n) L).1 else 0) = g1 at hF1
  generalize he1 : (if (P8.find (Wd.take n) L).2 = true then (0 : Int) else 8) = e1 at hF1
  generalize hg2 : (if (P8.find Wd L).2 = true then first + (P8.find Wd L).1 else 0) = g2 at hF2
  generalize he2 : (if (P8.find Wd L).2 = true then (0 : Int) else 8) = e2 at hF2
  have HA : Hid ((0 < O ∧ n < Wd.length → g1 = 0 ∧ e1 = 8) ∧ (¬ (0 < O ∧ n < Wd.length) → g1 = (i : Int) + first ∧ e1 = 0 ∧ g2 = (i : Int) + first ∧ e2 = 0)) := Lib.hid (by
    refine ⟨fun h => ?_, fun h => ?_⟩
    · have q := hB.1 h
      rw [q] at hg1 he1
      exact ⟨hg1.symm, he1.symm⟩
    · obtain ⟨q1, q2⟩ := hB.2 h
      rw [q1] at hg1 he1
      rw [q2] at hg2 he2
      simp only [if_true] at hg1 he1 hg2 he2
      exact ⟨by omega, he1.symm, by omega, he2.symm⟩)
  have HO : Hid (othersTo L i n L.length = O) := Lib.hid (by rw [othersTo_all]; exact hO)
  clear hB hg1 he1 hg2 he2 hO
  have HF1 := Lib.hid hF1; have HF2 := Lib.hid hF2; have HC1 := Lib.hid hC1; have HC2 := Lib.hid hC2
  have HV := Lib.hid hv
  clear hF1 hF2 hC1 hC2 hv hfind hws hbk hq
  have hsz := str_size Wd
  have hLl : (L.length : Int) ≤ 12 := by omega
  have HN := Lib.hid (show i < L.length ∧ n ≤ Wd.length ∧ Wd.length ≤ 9 ∧ L.length ≤ 12 ∧ 1 ≤ n ∧ j + 1 = n from ⟨hi, hn9, hWl, hlen.2, by omega, hn⟩)
  have v0 : 0 ≤ a0 ∧ a0 ≤ 100000 := by omega
  have v1 : 0 ≤ a1 ∧ a1 ≤ 100000 := by omega
  have v2 : 0 ≤ a2 ∧ a2 ≤ 100000 := by omega
  have v3 : 0 ≤ (n : Int) ∧ (n : Int) ≤ 100000 := by omega
  have v4 : 0 ≤ (i : Int) + first ∧ (i : Int) + first ≤ 100000 := by omega
  have y0 : (k : Int) < 4 := by omega
  have y1 : (i : Int) < (L.length : Int) := by omega
  have z0 : (0 : Int) ≤ (k : Int) := by omega
  have z1 : (0 : Int) ≤ (i : Int) := by omega
  have z2 : (0 : Int) ≤ (n : Int) := by omega
  have z3 : ¬ (L.length : Int) = 0 := by omega
  have z4 : ¬ (Wd.length : Int) = 0 := by omega
  have z5 : (n : Int) ≤ (Wd.length : Int) := by omega
  have hjn : 1 + (j : Int) = (n : Int) := by omega
  have v5 := hjn
  have HWL := Lib.hid hwl2; have HWD := Lib.hid hWd
  clear b0 b1 b2 b3 hwl hwl2 hfo hlen hk hi hj hn hn9 hWl hWd hO12
  have x0 := small64 _ v0
  have x1 := small64 _ v1
  have x2 := small64 _ v2
  have x3 : wrap64 (1 + (j : Int)) = (n : Int) := by rw [hjn]; exact small64 _ v3
  clear hjn v5
  have x4 := small64 _ v4
  clear v0 v1 v2 v3 v4
  have m0 : a0.tmod 4 = (k : Int) := M0.out
  have m1 : a1.tmod (L.length : Int) = (i : Int) := M1.out
  have m2 : a2.tmod (Wd.length : Int) = (j : Int) := M2.out
  clear M0 M1 M2
  have hb := Below.refl w.heap.size w
  go_enter Tryd.func10, Tryd.ntmps10
  go_wp2_with fail
  refine (lists_any _).mono ?_
  rintro e w1 ⟨rfl, hl, h9⟩
  obtain ⟨c0, c1, c2, hr⟩ := LS.out _ _ _ hl
  replace hb := hb.trans (h9.mono hb.size)
  obtain ⟨g, hg⟩ : ∃ g, w.heap.size + k = g := ⟨_, rfl⟩
  rw [hg] at c0 hr
  have HB : Hid (Box8 w (w1.alloc (.cells #[.slice (some ⟨g, 0, none⟩) L.length L.length, .func (.func f) #[] #[], .int .i64 first] 77)) w1.heap.size g L f first) := Lib.hid ⟨Blk.new w1 _ _, hr.alloc _, hb.alloc hb.size _⟩
  clear hl h9 hr hg hb
  have d0 := (HB.out.box.cell 0).trans rfl
  have dr := HB.out.words.cell i _ (wcells_get L i HN.out.1)
  rw [HWD.out] at dr
  go_wp2_with fail
  generalize hBx : w1.heap.size = Bx at HB d0 dr ⊢
  generalize w1.alloc (.cells #[.slice (some ⟨g, 0, none⟩) L.length L.length, .func (.func f) #[] #[], .int .i64 first] 77) = W2 at *
  clear c0 c1 c2 d0 dr hBx m0 m1 m2 x0 x1 x2
  rw [x3]
  have X4 := Lib.hid x4
  clear x3 x4
  go_loopw [13, 14] (fun o kk W => ∃ k : Nat, k ≤ L.length ∧ kk = .int .i64 k ∧ o = .int .i64 (othersTo L i n k) ∧ Box8 w W Bx g L f first) (fun _ kk _ => L.length - (intOf kk).toNat)
  case atStart => exact ⟨0, Nat.zero_le _, rfl, rfl, HB.out⟩
  case round =>
    obtain ⟨k, hk, rfl, rfl, hbx⟩ := hrel
    have d0 := (hbx.box.cell 0).trans rfl
    have HBQ := Lib.hid hbx
    by_cases hlt : k < L.length
    · have hki : (k : Int) < (L.length : Int) := by omega
      have hk0 : (0 : Int) ≤ (k : Int) := by omega
      have dk := hbx.words.cell k _ (wcells_get L k hlt)
      have hv9 := HWL.out k hlt
      have hoth := othersTo_le L i n k
      have hSu := othersTo_succ L i n k
      obtain ⟨V, hV⟩ : ∃ V, P8.word L k = V := ⟨_, rfl⟩
      rw [HWD.out] at hSu
      rw [hV] at dk hv9 hSu
      have hsv := str_size V
      clear hbx hV
      obtain ⟨o, ho⟩ : ∃ o, othersTo L i n k = o := ⟨_, rfl⟩
      rw [ho] at hoth hSu ⊢
      clear ho
      have w1 : wrap64 ((o : Int) + 1) = (o : Int) + 1 := by unfold wrap64; omega
      by_cases hki2 : k = i
      · have hne : ((k : Int) != (i : Int)) = false := by rw [bne_eq_false_iff_eq]; omega
        have HS : Hid (othersTo L i n (k + 1) = o) := Lib.hid (by rw [hSu, if_neg (by simp [hki2]), Nat.add_zero])
        clear hSu hki2 w1
        go_wp2_with fail
        go_quiet (fail)
        go_wp2_with fail
        go_roundw
        case rel => exact ⟨k + 1, by omega, by go_num, by rw [HS.out], HBQ.out.drewN nq⟩
        case measure => simp [intOf]; omega
      · have hne : ((k : Int) != (i : Int)) = true := by rw [bne_iff_ne]; omega
        have hnb : (k != i) = true := by rw [bne_iff_ne]; exact hki2
        by_cases hn1 : n ≤ V.length
        · have hn2 : (n : Int) ≤ (V.length : Int) := by omega
          cases hT : V.take n == Wd.take n with
          | true =>
            have hqq : (((str V).extract 0 n).toList == ((str Wd).extract 0 n).toList) = true := by
              rw [show (str V).extract 0 n = str (V.take n) from str_cut V 0 n, show (str Wd).extract 0 n = str (Wd.take n) from str_cut Wd 0 n, str_list, str_list]; exact hT
            have HS : Hid (othersTo L i n (k + 1) = o + 1) := Lib.hid (by rw [hSu, if_pos (by rw [hnb, hT, decide_eq_true hn1]; rfl)])
            clear hSu hki2 hT hnb
            go_wp2_with fail
            go_quiet (fail)
            go_wp2_with fail
            go_roundw
            case rel => exact ⟨k + 1, by omega, by go_num, by rw [HS.out, w1]; rfl, HBQ.out.drewN nq⟩
            case measure => simp [intOf]; omega
          | false =>
            have hqq : (((str V).extract 0 n).toList == ((str Wd).extract 0 n).toList) = false := by
              rw [show (str V).extract 0 n = str (V.take n) from str_cut V 0 n, show (str Wd).extract 0 n = str (Wd.take n) from str_cut Wd 0 n, str_list, str_list]; exact hT
            have HS : Hid (othersTo L i n (k + 1) = o) := Lib.hid (by rw [hSu, if_neg (by rw [hT, Bool.and_false]; decide), Nat.add_zero])
            clear hSu hki2 hT hnb w1
            go_wp2_with fail
            go_quiet (fail)
            go_wp2_with fail
            go_roundw
            case rel => exact ⟨k + 1, by omega, by go_num, by rw [HS.out], HBQ.out.drewN nq⟩
            case measure => simp [intOf]; omega
        · have hn2 : ¬ (n : Int) ≤ (V.length : Int) := by omega
          have HS : Hid (othersTo L i n (k + 1) = o) := Lib.hid (by rw [hSu, if_neg (by rw [decide_eq_false hn1, Bool.and_false, Bool.false_and]; decide), Nat.add_zero])
          clear hSu hki2 hnb w1
          go_wp2_with fail
          go_quiet (fail)
          go_wp2_with fail
          go_roundw
          case rel => exact ⟨k + 1, by omega, by go_num, by rw [HS.out], HBQ.out.drewN nq⟩
          case measure => simp [intOf]; omega
    · obtain rfl : k = L.length := by omega
      rw [HO.out]
      clear hbx
      go_wp2_with fail
      have HS := Lib.hid (show wr.cell? ⟨Bx, 0, none⟩ = some (.slice (some ⟨g, 0, none⟩) L.length L.length) ∧ wr.cell? ⟨Bx, 1, none⟩ = some (.func (.func f) #[] #[]) ∧ wr.cell? ⟨Bx, 2, none⟩ = some (.int .i64 first) from ⟨(HBQ.out.box.cell 0).trans rfl, (HBQ.out.box.cell 1).trans rfl, (HBQ.out.box.cell 2).trans rfl⟩)
      have HSK := Lib.hid (fun W (h : Below wr.heap.size wr W) => (show W.cell? ⟨Bx, 0, none⟩ = some (.slice (some ⟨g, 0, none⟩) L.length L.length) ∧ W.cell? ⟨Bx, 1, none⟩ = some (.func (.func f) #[] #[]) ∧ W.cell? ⟨Bx, 2, none⟩ = some (.int .i64 first) from ⟨((HBQ.out.below h).box.cell 0).trans rfl, ((HBQ.out.below h).box.cell 1).trans rfl, ((HBQ.out.below h).box.cell 2).trans rfl⟩))
      go_region_held3 (fun W => W.cell? ⟨Bx, 0, none⟩ = some (.slice (some ⟨g, 0, none⟩) L.length L.length) ∧ W.cell? ⟨Bx, 1, none⟩ = some (.func (.func f) #[] #[]) ∧ W.cell? ⟨Bx, 2, none⟩ = some (.int .i64 first)) (first | exact HSK.out _ hc3 | exact HSK.out _ hc2 | exact HSK.out _ ((Below.refl _ _).drew) | exact HS.out | assumption) (first | (go_at_call 39; refine (HC1.out _).mono ?_; rintro en w5 ⟨X, rfl, hX, hc⟩; have hc2 : Below wr.heap.size wr w5 := (Below.refl wr.heap.size wr).drew.trans hc; clear hc) | (refine (HF1.out X _ hX (HV.out.below (HBQ.out.bel.trans (hc2.mono HBQ.out.bel.size)))).mono ?_; rintro en w6 ⟨rfl, hc⟩; have hc3 : Below wr.heap.size wr w6 := hc2.trans (hc.mono hc2.size); clear hc))
      have HB5 := Lib.hid (HBQ.out.below hc3)
      clear HS HSK hc2 hc3 d0
      by_cases o1 : 0 < O
      · have o2 : (0 : Int) < (O : Int) := by omega
        by_cases o3 : n < Wd.length
        · have o4 : (n : Int) < (Wd.length : Int) := by omega
          obtain ⟨rfl, rfl⟩ := HA.out.1 ⟨o1, o3⟩
          go_wp2_with fail
          refine (works8_any _ (HV.out.below HB5.out.bel)).mono ?_
          rintro en w9 ⟨rfl, h9⟩
          have HZ := Lib.hid (HB5.out.bel.trans (h9.mono HB5.out.bel.size))
          clear h9
          go_wp2_with fail
          go_ret
          exact ⟨rfl, HZ.out⟩
        · have o4 : ¬ (n : Int) < (Wd.length : Int) := by omega
          obtain ⟨rfl, rfl, rfl, rfl⟩ := HA.out.2 (fun q => o3 q.2)
          go_wp2_with fail
          have HS := Lib.hid (show w6.cell? ⟨Bx, 0, none⟩ = some (.slice (some ⟨g, 0, none⟩) L.length L.length) ∧ w6.cell? ⟨Bx, 1, none⟩ = some (.func (.func f) #[] #[]) ∧ w6.cell? ⟨Bx, 2, none⟩ = some (.int .i64 first) from ⟨(HB5.out.box.cell 0).trans rfl, (HB5.out.box.cell 1).trans rfl, (HB5.out.box.cell 2).trans rfl⟩)
          have HSK := Lib.hid (fun W (h : Below w6.heap.size w6 W) => (show W.cell? ⟨Bx, 0, none⟩ = some (.slice (some ⟨g, 0, none⟩) L.length L.length) ∧ W.cell? ⟨Bx, 1, none⟩ = some (.func (.func f) #[] #[]) ∧ W.cell? ⟨Bx, 2, none⟩ = some (.int .i64 first) from ⟨((HB5.out.below h).box.cell 0).trans rfl, ((HB5.out.below h).box.cell 1).trans rfl, ((HB5.out.below h).box.cell 2).trans rfl⟩))
          go_region_held3 (fun W => W.cell? ⟨Bx, 0, none⟩ = some (.slice (some ⟨g, 0, none⟩) L.length L.length) ∧ W.cell? ⟨Bx, 1, none⟩ = some (.func (.func f) #[] #[]) ∧ W.cell? ⟨Bx, 2, none⟩ = some (.int .i64 first)) (first | exact HSK.out _ hc3 | exact HSK.out _ hc2 | exact HSK.out _ ((Below.refl _ _).drew) | exact HS.out | assumption) (first | (go_at_call 39; refine (HC2.out _).mono ?_; rintro en w7 ⟨X, rfl, hX, hc⟩; have hc2 : Below w6.heap.size w6 w7 := (Below.refl w6.heap.size w6).drew.trans hc; clear hc) | (refine (HF2.out X _ hX (HV.out.below (HB5.out.bel.trans (hc2.mono HB5.out.bel.size)))).mono ?_; rintro en w8 ⟨rfl, hc⟩; have hc3 : Below w6.heap.size w6 w8 := hc2.trans (hc.mono hc2.size); clear hc))
          have HB6 := Lib.hid (HB5.out.below hc3)
          clear HS HSK hc2 hc3
          have d2 := (HB6.out.box.cell 2).trans rfl
          have x4 := X4.out
          have q1 : ((i : Int) + first == (i : Int) + first) = true := beq_self_eq_true _
          go_wp2_with fail
          refine (works8_any _ (HV.out.below HB6.out.bel)).mono ?_
          rintro en w9 ⟨rfl, h9⟩
          have HZ := Lib.hid (HB6.out.bel.trans (h9.mono HB6.out.bel.size))
          clear h9
          go_wp2_with fail
          go_ret
          exact ⟨rfl, HZ.out⟩
      · have o2 : ¬ (0 : Int) < (O : Int) := by omega
        obtain ⟨rfl, rfl, rfl, rfl⟩ := HA.out.2 (fun q => o1 q.1)
        go_wp2_with fail
        have HS := Lib.hid (show w6.cell? ⟨Bx, 0, none⟩ = some (.slice (some ⟨g, 0, none⟩) L.length L.length) ∧ w6.cell? ⟨Bx, 1, none⟩ = some (.func (.func f) #[] #[]) ∧ w6.cell? ⟨Bx, 2, none⟩ = some (.int .i64 first) from ⟨(HB5.out.box.cell 0).trans rfl, (HB5.out.box.cell 1).trans rfl, (HB5.out.box.cell 2).trans rfl⟩)
        have HSK := Lib.hid (fun W (h : Below w6.heap.size w6 W) => (show W.cell? ⟨Bx, 0, none⟩ = some (.slice (some ⟨g, 0, none⟩) L.length L.length) ∧ W.cell? ⟨Bx, 1, none⟩ = some (.func (.func f) #[] #[]) ∧ W.cell? ⟨Bx, 2, none⟩ = some (.int .i64 first) from ⟨((HB5.out.below h).box.cell 0).trans rfl, ((HB5.out.below h).box.cell 1).trans rfl, ((HB5.out.below h).box.cell 2).trans rfl⟩))
        go_region_held3 (fun W => W.cell? ⟨Bx, 0, none⟩ = some (.slice (some ⟨g, 0, none⟩) L.length L.length) ∧ W.cell? ⟨Bx, 1, none⟩ = some (.func (.func f) #[] #[]) ∧ W.cell? ⟨Bx, 2, none⟩ = some (.int .i64 first)) (first | exact HSK.out _ hc3 | exact HSK.out _ hc2 | exact HSK.out _ ((Below.refl _ _).drew) | exact HS.out | assumption) (first | (go_at_call 39; refine (HC2.out _).mono ?_; rintro en w7 ⟨X, rfl, hX, hc⟩; have hc2 : Below w6.heap.size w6 w7 := (Below.refl w6.heap.size w6).drew.trans hc; clear hc) | (refine (HF2.out X _ hX (HV.out.below (HB5.out.bel.trans (hc2.mono HB5.out.bel.size)))).mono ?_; rintro en w8 ⟨rfl, hc⟩; have hc3 : Below w6.heap.size w6 w8 := hc2.trans (hc.mono hc2.size); clear hc))
        have HB6 := Lib.hid (HB5.out.below hc3)
        clear HS HSK hc2 hc3
        have d2 := (HB6.out.box.cell 2).trans rfl
        have x4 := X4.out
        have q1 : ((i : Int) + first == (i : Int) + first) = true := beq_self_eq_true _
        go_wp2_with fail
        refine (works8_any _ (HV.out.below HB6.out.bel)).mono ?_
        rintro en w9 ⟨rfl, h9⟩
        have HZ := Lib.hid (HB6.out.bel.trans (h9.mono HB6.out.bel.size))
        clear h9
        go_wp2_with fail
        go_ret
        exact ⟨rfl, HZ.out⟩
end Go.Proofs.YtggdfgdnpicepaaDoor
