/- The law WordOne (chapter 8), walked. -/
import Derived.Deep.OwnRows
import Derived.Deep.RegionHeld3
import Derived.Test.YtggdfgdnpicepaaDoorSlices
import Derived.Test.YtggdfgdnpicepaaDoorLaws8d
import Derived.Test.YtggdfgdnpicepaaDoorPlain08b
namespace Go.Proofs.YtggdfgdnpicepaaDoor
open Go.RowKit Go.Proofs
set_option linter.unusedVariables false
set_option linter.unusedSimpArgs false

def numCell8 (n : Int) : List Value := [.int .u8 n]
theorem made_zero (n : Nat) : (madeCells #[.int .u8 0] n).toList = bvs (List.replicate n 0) := by
  apply List.ext_getElem?
  intro j
  unfold madeCells bvs
  by_cases h : j < n
  · simp [h, Nat.mod_one]
  · simp [h]
/-- the letters so far, and zeros -/
def ltrTo (L : List Int) (k : Nat) : List UInt8 := (L.take k).map P8.ltr ++ List.replicate (L.length - k) 0
theorem ltrTo_zero (L : List Int) : ltrTo L 0 = List.replicate L.length 0 := by simp [ltrTo]
theorem ltrTo_all (L : List Int) : ltrTo L L.length = L.map P8.ltr := by simp [ltrTo]
theorem ltrTo_len (L : List Int) (k : Nat) (h : k ≤ L.length) : (ltrTo L k).length = L.length := by simp [ltrTo]; omega
theorem ltrTo_set (L : List Int) (k : Nat) (n : Int) (h : L[k]? = some n) : (ltrTo L k).set k (P8.ltr n) = ltrTo L (k + 1) := by
  have hk := (List.getElem?_eq_some_iff.1 h).1
  unfold ltrTo
  rw [List.set_append_right _ _ (by simp; omega)]
  simp only [List.length_map, List.length_take, Nat.min_eq_left (Nat.le_of_lt hk), Nat.sub_self]
  rw [List.take_add_one, h, List.map_append, List.append_assoc]
  congr 1
  obtain ⟨m, hm⟩ : ∃ m, L.length - k = m + 1 := ⟨L.length - k - 1, by omega⟩
  rw [hm, show L.length - (k + 1) = m by omega, List.replicate_succ]
  rfl
theorem lt_of_cell {W : World} {a : Addr} {u : Value} (h : W.cell? a = some u) : a.block < W.heap.size := by
  unfold World.cell? at h
  rcases Nat.lt_or_ge a.block W.heap.size with q | q
  · exact q
  · rw [Array.getElem?_eq_none q] at h; cases h
theorem Lists.below {W W' : World} {B g : Nat} (h : Lists W B g) (hb : Below W.heap.size W W') : Lists W' B g := fun k hk => by
  obtain ⟨h1, h2, h3, h4⟩ := h k hk
  exact ⟨(hb.cell (p := ⟨B, k * 3, none⟩) (lt_of_cell h1)).trans h1, (hb.cell (p := ⟨B, k * 3 + 1, none⟩) (lt_of_cell h2)).trans h2, (hb.cell (p := ⟨B, k * 3 + 2, none⟩) (lt_of_cell h3)).trans h3, h4.belowS hb⟩
/-- what is found in a list, in three cases -/
theorem one_cases (k : Nat) (hk : k < 4) (s : List UInt8) (hlow : s.map P8.low = s) (hlow2 : (s.take (s.length - 1)).map P8.low = s.take (s.length - 1)) :
    (P8.num (firstOf k) s (listOf k) = (0, 8)) ∨
    ∃ i, i < (listOf k).length ∧ P8.num (firstOf k) s (listOf k) = (firstOf k + i, 0) ∧ P8.begins s (P8.word (listOf k) i) = true ∧
      (P8.num (firstOf k) (s.take (s.length - 1)) (listOf k) = (firstOf k + i, 0) ∨ P8.num (firstOf k) (s.take (s.length - 1)) (listOf k) = (0, 8)) := by
  have hq := listOf_mem k hk
  cases hf : (P8.find s (listOf k)).2 with
  | false => exact .inl (num_not hlow hf)
  | true =>
    obtain ⟨i, hi, he, hb, _⟩ := P8.find_cases hf
    refine .inr ⟨i, hi, num_found hlow he, hb, ?_⟩
    cases hf2 : (P8.find (s.take (s.length - 1)) (listOf k)).2 with
    | false => exact .inr (num_not hlow2 hf2)
    | true => exact .inl (num_found hlow2 (P8.find_shorter hq hi hb hf2))
theorem infoU8' : (Tryd.prog.info? 5).map (fun i => (i.zero, i.size, i.bytes)) = some (some (.int .u8 0), 1, 1) := by kernel_rfl
set_option maxRecDepth 100000 in
set_option maxHeartbeats 8000000 in
theorem walkWordOne (A : Option Addr) (c : Nat) (L : List Int) (w : World) (hl : L.length ≤ maxLen) (hC : CellsIn 1 numCell8 w A L) (hN : ∀ n ∈ L, (Lit.int .u8 n).wf = true) (hv : Vars8 w) :
    Calls Tryd.prog 13 #[.slice A L.length c] w fun e w' => e = .returned (.bool true) ∧ Below w.heap.size w w' := by
  have HV := Lib.hid hv
  have hb := Below.refl w.heap.size w
  unfold maxLen at hl
  clear hv
  by_cases h12 : 12 < L.length
  · have h1 : (12 : Int) < (L.length : Int) := by omega
    clear hC hN h12
    go_enter Tryd.func13, Tryd.ntmps13
    go_wp2_with fail
    refine (works8_any _ HV.out).mono ?_
    rintro e w1 ⟨rfl, h9⟩
    go_wp2_with fail
    go_ret
    exact ⟨rfl, h9⟩
  · have h1 : ¬ (12 : Int) < (L.length : Int) := by omega
    have hl12 : L.length ≤ 12 := by omega
    have HC := Lib.hid hC; have HN := Lib.hid hN
    clear hC hN h12 hl
    have hmk := run_make_row' (P := Tryd.prog) 39 5 (.int .u8 0) 1 Tryd.underlying39 infoU8' rfl .i64 .i64 L.length (by omega) (by omega)
    have h0 := Cs.new w 5 (madeCells #[.int .u8 0] L.length)
    rw [made_zero, ← ltrTo_zero] at h0
    have hb1 := hb.alloc (Nat.le_refl _) (.cells (madeCells #[.int .u8 0] L.length) 5)
    have H0 := Lib.hid h0; have HB1 := Lib.hid hb1
    clear h0 hb1 hb
    go_enter Tryd.func13, Tryd.ntmps13
    go_wp2_with fail
    go_loopw [22] (fun i W => ∃ k : Nat, k ≤ L.length ∧ i = .int .i64 k ∧ Cs W w.heap.size (bvs (ltrTo L k)) ∧ Below w.heap.size w W) (fun i _ => L.length - (intOf i).toNat)
    case atStart => exact ⟨0, Nat.zero_le _, rfl, H0.out, HB1.out⟩
    case round =>
      obtain ⟨k, hk, rfl, hcs, hbl⟩ := hrel
      by_cases hlt : k < L.length
      · obtain ⟨n, hn⟩ : ∃ n, L[k]? = some n := ⟨_, List.getElem?_eq_getElem hlt⟩
        have hki : (k : Int) < (L.length : Int) := by omega
        obtain ⟨g, o, rfl, hg, hcl⟩ := HC.out.below hbl k n hn
        have e0 := hcl 0 _ rfl
        rw [Nat.mul_one, Nat.add_zero] at e0
        have f0 := hcs.frozen k (by rw [bvs_len, ltrTo_len L k hk]; exact hlt)
        have hwn := HN.out n (List.mem_of_getElem? hn)
        obtain ⟨n0, n1⟩ := u8_bounds hwn
        have hln := P8.ltr_num n n0
        have hce : (Cs wr w.heap.size (bvs (ltrTo L k))) := hcs
        obtain ⟨v, hv⟩ : ∃ v, (bvs (ltrTo L k))[k]? = some v := ⟨_, List.getElem?_eq_getElem (by rw [bvs_len, ltrTo_len L k hk]; exact hlt)⟩
        have c0 := hcs.cell k v hv
        have HCS := Lib.hid hcs; have HBL := Lib.hid hbl; have HNN := Lib.hid hn; have HLN := Lib.hid hln
        have m26 : n.tmod 26 = n % 26 := Int.tmod_eq_emod_of_nonneg n0
        have x1 : IntKind.u8.wrap (n % 26) = n % 26 := u8_id (by omega)
        have x2 : IntKind.u8.wrap (97 + n % 26) = 97 + n % 26 := u8_id (by omega)
        clear hcl hcs hbl hn hwn n0 n1 hln hce hv hmk
        go_wp2_with fail
        go_roundw
        case rel => exact ⟨k + 1, by omega, by go_num, by rw [← ltrTo_set L k n HNN.out, ← bvs_set, HLN.out]; exact HCS.out.set_ k _, HBL.out.setCell (p := ⟨w.heap.size, k, none⟩) (Nat.le_refl _) _⟩
        case measure => simp [intOf]; omega
      · obtain rfl : k = L.length := by omega
        rw [ltrTo_all] at hcs
        have hlow := P8.ltrs_low (L := L) (fun n hn => (u8_bounds (HN.out n hn)).1)
        have hcv := conv_own (P := Tryd.prog) Tryd.underlying39 Tryd.underlying5 Tryd.underlying9 wr w.heap.size L.length L.length (L.map P8.ltr) (by simp) (fun j u hu => hcs.cell j u hu)
        have hsl : (L.map P8.ltr).length = L.length := by simp
        generalize L.map P8.ltr = s at hlow hcv hsl
        have hlow2 : (s.take (s.length - 1)).map P8.low = s.take (s.length - 1) := by rw [List.map_take, hlow]
        have ONE := Lib.hid (fun k hk => one_cases k hk s hlow hlow2)
        have HS12 := Lib.hid (show s.length ≤ 12 by omega)
        have hsz := str_size s
        clear hcs hlow hlow2 hmk H0 HB1 HC HN hl12 hsl
        have hb := hbl
        clear hbl
        go_wp2_with fail
        refine (lists_any _).mono ?_
        rintro e w1 ⟨rfl, hli, h9⟩
        have HB := Lib.hid (hb.trans (h9.mono hb.size))
        have HLI := Lib.hid hli
        clear hli h9 hb hcv
        generalize wr.heap.size + 4 = B at HLI ⊢
        generalize wr.heap.size = g at HLI
        go_wp2_with fail
        go_loopw [39] (fun i W => ∃ k : Nat, k ≤ 4 ∧ i = .int .i64 k ∧ Lists W B g ∧ Below w.heap.size w W) (fun i _ => 4 - (intOf i).toNat)
        case atStart => exact ⟨0, by omega, rfl, HLI.out, HB.out⟩
        case round =>
          clear HLI HB
          obtain ⟨k, hk, rfl, hli, hbl⟩ := hrel
          by_cases hlt : k < 4
          · have hki : (k : Int) < (4 : Int) := by omega
            obtain ⟨c0, c1, c2, hr⟩ := hli k hlt
            have hfo := firstOf_le k
            have hent := fn_enters k hlt
            have hlen := listOf_len k hlt
            have HLL := Lib.hid (fun W (h : Below wr.heap.size wr W) => hli.below h)
            have hone := ONE.out k hlt
            have hcall := fun (l : List UInt8) W hs hv => find_call k hlt (str l) W hs hv
            simp only [str_data] at hcall
            generalize listOf k = L2 at *
            generalize firstOf k = first at *
            generalize fnOf k = f at *
            have nb := Blk.new wr 77 #[.slice (some ⟨g + k, 0, none⟩) L2.length L2.length, .func (.func f) #[] #[], .int .i64 first]
            have HBX : Hid (Box8 w (wr.alloc (.cells #[.slice (some ⟨g + k, 0, none⟩) L2.length L2.length, .func (.func f) #[] #[], .int .i64 first] 77)) wr.heap.size (g + k) L2 f first) := Lib.hid ⟨nb, hr.alloc _, hbl.alloc hbl.size _⟩
            have hal := (Below.refl wr.heap.size wr).alloc (Nat.le_refl _) (.cells #[.slice (some ⟨g + k, 0, none⟩) L2.length L2.length, .func (.func f) #[] #[], .int .i64 first] 77)
            have HAL := Lib.hid hal
            have d1 := (nb.cell 1).trans rfl
            clear nb hr hli hbl hal
            rcases hone with hno | ⟨i, hi, hyes, hbeg, hsh⟩
            · have hc1 := hcall s (wr.alloc (.cells #[.slice (some ⟨g + k, 0, none⟩) L2.length L2.length, .func (.func f) #[] #[], .int .i64 first] 77)) (by rw [str_size]; have := HS12.out; omega) (HV.out.below HBX.out.bel)
              rw [hno] at hc1
              have HC1 := Lib.hid hc1
              clear hcall hno hc1 hfo hlen
              go_wp2_with fail
              refine HC1.out.mono ?_
              rintro e w2 ⟨rfl, h9⟩
              have HB2 := Lib.hid (HBX.out.below h9)
              have HA2 := Lib.hid (HAL.out.trans (h9.mono HAL.out.size))
              clear h9 HC1
              go_wp2_with fail
              go_roundw
              case rel => exact ⟨k + 1, by omega, by go_num, HLL.out _ HA2.out, HB2.out.bel⟩
              case measure => simp [intOf]; omega
            · obtain ⟨m, hm⟩ : ∃ m, s.length = m + 1 := ⟨s.length - 1, by
                have := (P8.begins_iff.1 hbeg).1
                have := List.length_pos_iff.2 this
                omega⟩
              obtain ⟨N, hN⟩ : ∃ N, m + 1 = N := ⟨_, rfl⟩
              rw [hN] at hm
              rw [hm] at hsz
              obtain ⟨Wd, hWd⟩ : ∃ Wd, P8.word L2 i = Wd := ⟨_, rfl⟩
              obtain ⟨hne, hpre⟩ := P8.begins_iff.1 hbeg
              rw [hWd] at hpre
              have hWl : N ≤ Wd.length := by rw [← hm]; exact hpre.length_le
              have hWs := str_size Wd
              have hex : (str Wd).extract 0 N = str s := by
                rw [show (str Wd).extract 0 N = str (Wd.take N) from str_cut Wd 0 N, ← hm, ← List.prefix_iff_eq_take.1 hpre]
              have hex2 : (str s).extract 0 m = str (s.take m) := str_cut s 0 m
              have hq := HBX.out.words.cell i _ (wcells_get L2 i hi)
              rw [hWd] at hq
              have hc1 := hcall s (wr.alloc (.cells #[.slice (some ⟨g + k, 0, none⟩) L2.length L2.length, .func (.func f) #[] #[], .int .i64 first] 77)) (by rw [str_size]; have := HS12.out; omega) (HV.out.below HBX.out.bel)
              obtain ⟨G, hG⟩ : ∃ G : Int, first + (i : Int) = G := ⟨_, rfl⟩
              rw [hG] at hyes hsh
              rw [hyes] at hc1
              have hc2 := fun W hv => hcall (s.take m) W (by rw [str_size]; have := HS12.out; simp; omega) hv
              rw [show s.length - 1 = m by omega] at hsh
              generalize P8.num first (s.take m) L2 = R at hc2 hsh
              rw [← hex2] at hc2
              have HC1 := Lib.hid hc1; have HC2 := Lib.hid hc2; have HSH := Lib.hid hsh
              have i1 : (i : Int) < (L2.length : Int) := by omega
              have i0 : (0 : Int) ≤ (i : Int) := by omega
              have i2 : ¬ G < first := by omega
              have i3 : G - first = (i : Int) := by omega
              have i9 : first ≤ G := by omega
              have i4 : ¬ (L2.length : Int) ≤ (i : Int) := by omega
              have i5 : ¬ (Wd.length : Int) < (N : Int) := by omega
              have i6 : (N : Int) ≤ (Wd.length : Int) := by omega
              have i7 : ((N : Int) == 0) = false := by rw [beq_eq_false_iff_ne]; omega
              have i10 : (0 : Int) ≤ (N : Int) := by omega
              have i11 : (0 : Int) ≤ (m : Int) := by omega
              have i12 : (N : Int) - 1 = (m : Int) := by omega
              have i8 : (m : Int) ≤ (N : Int) := by omega
              have v1 : 0 ≤ (i : Int) ∧ (i : Int) ≤ 100000 := by omega
              have v2 : 0 ≤ (m : Int) ∧ (m : Int) ≤ 100000 := by have := HS12.out; omega
              have HWD := Lib.hid hWd; have HI := Lib.hid hi
              have hqq : ((str s).toList != (str s).toList) = false := by simp
              clear hcall hyes hc1 hc2 hsh hbeg hex2 hm hWd hne hpre hWl hi hfo hlen hG hN
              have x1 : wrap64 (G - first) = (i : Int) := by rw [i3]; exact small64 _ v1
              have x2 : wrap64 ((N : Int) - 1) = (m : Int) := by rw [i12]; exact small64 _ v2
              have x4 : IntKind.i64.wrap ((N : Int) - 1) = (m : Int) := by rw [i12]; exact IntWalk.i64_in _ (by omega)
              clear v1 v2 i3 i12
              go_wp2_with fail
              refine HC1.out.mono ?_
              rintro e w2 ⟨rfl, h9⟩
              have HB2 := Lib.hid (HBX.out.below h9)
              have HA2 := Lib.hid (HAL.out.trans (h9.mono HAL.out.size))
              clear h9 HC1 hq d1
              have hq := HB2.out.words.cell i _ (wcells_get L2 i HI.out)
              rw [HWD.out] at hq
              have d0 := (HB2.out.box.cell 0).trans rfl
              have d2 := (HB2.out.box.cell 2).trans rfl
              go_wp2_with fail
              rcases HSH.out with rfl | rfl
              · have q1 : (G != G) = false := by simp
                have HS := Lib.hid (show w2.cell? ⟨wr.heap.size, 0, none⟩ = some (.slice (some ⟨g + k, 0, none⟩) L2.length L2.length) ∧ w2.cell? ⟨wr.heap.size, 1, none⟩ = some (.func (.func f) #[] #[]) ∧ w2.cell? ⟨wr.heap.size, 2, none⟩ = some (.int .i64 first) from ⟨(HB2.out.box.cell 0).trans rfl, (HB2.out.box.cell 1).trans rfl, (HB2.out.box.cell 2).trans rfl⟩)
                have HSK := Lib.hid (fun W (h : Below w2.heap.size w2 W) => (show W.cell? ⟨wr.heap.size, 0, none⟩ = some (.slice (some ⟨g + k, 0, none⟩) L2.length L2.length) ∧ W.cell? ⟨wr.heap.size, 1, none⟩ = some (.func (.func f) #[] #[]) ∧ W.cell? ⟨wr.heap.size, 2, none⟩ = some (.int .i64 first) from ⟨((HB2.out.below h).box.cell 0).trans rfl, ((HB2.out.below h).box.cell 1).trans rfl, ((HB2.out.below h).box.cell 2).trans rfl⟩))
                go_region_held3 (fun W => W.cell? ⟨wr.heap.size, 0, none⟩ = some (.slice (some ⟨g + k, 0, none⟩) L2.length L2.length) ∧ W.cell? ⟨wr.heap.size, 1, none⟩ = some (.func (.func f) #[] #[]) ∧ W.cell? ⟨wr.heap.size, 2, none⟩ = some (.int .i64 first)) (first | exact HSK.out _ hc2 | exact HSK.out _ ((Below.refl _ _).drew) | exact HS.out | assumption) ((refine (HC2.out _ (HV.out.below (HB2.out.bel.drew))).mono ?_; rintro en w5 ⟨rfl, hc⟩; have hc2 : Below w2.heap.size w2 w5 := (Below.refl w2.heap.size w2).drew.trans hc; clear hc))
                have HB3 := Lib.hid (HB2.out.below hc2)
                have HA3 := Lib.hid (HA2.out.trans (hc2.mono HA2.out.size))
                clear HS HSK hc2 d0 d2 hq x1 x2 x4
                go_wp2_with fail
                go_roundw
                case rel => exact ⟨k + 1, by omega, by go_num, HLL.out _ HA3.out, HB3.out.bel⟩
                case measure => simp [intOf]; omega
              · have q1 : ((8 : Int) == 0) = false := by decide
                have HS := Lib.hid (show w2.cell? ⟨wr.heap.size, 0, none⟩ = some (.slice (some ⟨g + k, 0, none⟩) L2.length L2.length) ∧ w2.cell? ⟨wr.heap.size, 1, none⟩ = some (.func (.func f) #[] #[]) ∧ w2.cell? ⟨wr.heap.size, 2, none⟩ = some (.int .i64 first) from ⟨(HB2.out.box.cell 0).trans rfl, (HB2.out.box.cell 1).trans rfl, (HB2.out.box.cell 2).trans rfl⟩)
                have HSK := Lib.hid (fun W (h : Below w2.heap.size w2 W) => (show W.cell? ⟨wr.heap.size, 0, none⟩ = some (.slice (some ⟨g + k, 0, none⟩) L2.length L2.length) ∧ W.cell? ⟨wr.heap.size, 1, none⟩ = some (.func (.func f) #[] #[]) ∧ W.cell? ⟨wr.heap.size, 2, none⟩ = some (.int .i64 first) from ⟨((HB2.out.below h).box.cell 0).trans rfl, ((HB2.out.below h).box.cell 1).trans rfl, ((HB2.out.below h).box.cell 2).trans rfl⟩))
                go_region_held3 (fun W => W.cell? ⟨wr.heap.size, 0, none⟩ = some (.slice (some ⟨g + k, 0, none⟩) L2.length L2.length) ∧ W.cell? ⟨wr.heap.size, 1, none⟩ = some (.func (.func f) #[] #[]) ∧ W.cell? ⟨wr.heap.size, 2, none⟩ = some (.int .i64 first)) (first | exact HSK.out _ hc2 | exact HSK.out _ ((Below.refl _ _).drew) | exact HS.out | assumption) ((refine (HC2.out _ (HV.out.below (HB2.out.bel.drew))).mono ?_; rintro en w5 ⟨rfl, hc⟩; have hc2 : Below w2.heap.size w2 w5 := (Below.refl w2.heap.size w2).drew.trans hc; clear hc))
                have HB3 := Lib.hid (HB2.out.below hc2)
                have HA3 := Lib.hid (HA2.out.trans (hc2.mono HA2.out.size))
                clear HS HSK hc2 d0 d2 hq x1 x2 x4
                go_wp2_with fail
                go_roundw
                case rel => exact ⟨k + 1, by omega, by go_num, HLL.out _ HA3.out, HB3.out.bel⟩
                case measure => simp [intOf]; omega
          · obtain rfl : k = 4 := by omega
            clear hli
            go_wp2_with fail
            refine (works8_any _ (HV.out.below hbl)).mono ?_
            rintro e w2 ⟨rfl, h9⟩
            have HZ := Lib.hid (hbl.trans (h9.mono hbl.size))
            clear h9 hbl
            go_wp2_with fail
            go_ret
            exact ⟨rfl, HZ.out⟩
end Go.Proofs.YtggdfgdnpicepaaDoor
