/- The walks of the reference's small and find (chapter 8). -/
import Derived.Test.YtggdfgdnpicepaaDoorWrd8c
namespace Go.Proofs.YtggdfgdnpicepaaDoor
open Go.RowKit Go.Proofs
set_option linter.unusedVariables false
set_option linter.unusedSimpArgs false

theorem infoU8 : (Tryd.prog.info? 5).map (fun i => (i.zero, i.size, i.bytes)) = some (some (.int .u8 0), 1, 1) := by kernel_rfl
theorem bvs_snoc (l : List UInt8) (c : UInt8) : bvs (l ++ [c]) = bvs l ++ [.int .u8 (c.toNat : Int)] := by rw [bvs_append]; rfl
theorem take_low (l : List UInt8) (k : Nat) (c : UInt8) (h : l[k]? = some c) : (l.take (k + 1)).map P8.low = (l.take k).map P8.low ++ [P8.low c] := by
  rw [List.take_add_one, h, List.map_append]; rfl
set_option maxRecDepth 100000 in
set_option maxHeartbeats 8000000 in
theorem rsmall_any (s : ByteArray) (w : World) (hs : s.size ≤ 1000000) :
    Calls Tryd.prog 75 #[.string s] w fun e w' => e = .returned (.string (str (s.data.toList.map P8.low))) ∧ Below w.heap.size w w' := by
  obtain ⟨l, hl⟩ : ∃ l, s.data.toList = l := ⟨_, rfl⟩
  obtain rfl : s = str l := by rw [← hl]; rfl
  rw [str_size] at hs
  clear hl
  rw [str_data]
  have hsz := str_size l
  obtain ⟨i0, hi, hz0, hz1, hz2⟩ := info_parts infoU8
  go_enter Tryd.func75, Tryd.ntmps75
  go_wp2_with fail
  go_loopw [3, 4] (fun v i W => ∃ k : Nat, k ≤ l.length ∧ i = .int .i64 k ∧ W.ownsRow w.heap.size 5 1 v k (bvs ((l.take k).map P8.low)) ∧ Below w.heap.size w W) (fun _ i _ => l.length - (intOf i).toNat)
  case atStart => exact ⟨0, Nat.zero_le _, rfl, World.ownsRow_nil .., Below.refl _ _⟩
  case round =>
    obtain ⟨k, hk, rfl, hrow, hb⟩ := hrel
    have HRW := Lib.hid hrow; have HB := Lib.hid hb
    clear hrow hb
    by_cases hlt : k < l.length
    · obtain ⟨c, hc⟩ : ∃ c, l[k]? = some c := ⟨_, List.getElem?_eq_getElem hlt⟩
      have hki : (k : Int) < (l.length : Int) := by omega
      have hix : (str l)[k]'(by rw [str_size]; exact hlt) = c := by
        have : (str l)[k]'(by rw [str_size]; exact hlt) = l[k] := by simp [str]; rfl
        rw [this]; rw [List.getElem?_eq_getElem hlt] at hc; injection hc
      have HCC := Lib.hid hc
      have hln := low_num c
      have hc256 : (c.toNat : Int) ≤ 255 := by have := c.toNat_lt; omega
      clear hc
      by_cases hU : (65 : Int) ≤ (c.toNat : Int) ∧ (c.toNat : Int) ≤ 90
      · rw [if_pos hU] at hln
        obtain ⟨h1, h2⟩ := hU
        have x1 : IntKind.u8.wrap ((c.toNat : Int) + 97) = (c.toNat : Int) + 97 := u8_id (by omega)
        have x2 : IntKind.u8.wrap ((c.toNat : Int) + 97 - 65) = (c.toNat : Int) + 32 := by rw [u8_id (by omega)]; omega
        have HL := Lib.hid hln
        clear hln hc256
        have hNB : Hid (Blk (wr.alloc (.cells #[.int .u8 ((c.toNat : Int) + 32)] 5)) wr.heap.size 5 #[.int .u8 ((c.toNat : Int) + 32)]) := Lib.hid (Blk.new _ _ _)
        have HO := Lib.hid ((own_below HRW.out ((Below.refl _ _).alloc (Nat.le_refl _) (.cells #[.int .u8 ((c.toNat : Int) + 32)] 5))))
        have HX2 := Lib.hid (HB.out.alloc HB.out.size (.cells #[.int .u8 ((c.toNat : Int) + 32)] 5))
        have HLS : Hid (bvs ((l.take (k + 1)).map P8.low) = bvs ((l.take k).map P8.low) ++ [.int .u8 ((c.toNat : Int) + 32)]) := Lib.hid (by rw [take_low l k c HCC.out, bvs_snoc, HL.out])
        go_wp2_with (at_builtin; refine wpList_append_own _ rfl _ _ 39 rfl w.heap.size 5 i0 _ 1 1 Tryd.underlying39 hi hz0 hz1 hz2 rfl (by decide) _ _ _ rfl HO.out ⟨wr.heap.size, 0, none⟩ 1 1 [.int .u8 ((c.toNat : Int) + 32)] rfl rfl (blk_cells hNB.out) (by simp [Value.oneCell']) (by simp only [maxLen]; omega) (by omega) HX2.out.size ?_)
        intro v1 wa hown hgr hne
        have HX3 := Lib.hid (own_grown HX2.out HO.out hgr HX2.out.size (Nat.le_refl _))
        have HRW2 : Hid (wa.ownsRow w.heap.size 5 1 v1 (k + 1) (bvs ((l.take (k + 1)).map P8.low))) := Lib.hid (by rw [HLS.out, List.map_take]; exact hown)
        clear hown hgr hne HO HX2 hNB HLS
        go_wp2_with fail
        go_roundw
        case rel => exact ⟨k + 1, by omega, by go_num, HRW2.out, HX3.out⟩
        case measure => simp [intOf]; omega
      · rw [if_neg hU] at hln
        have HL := Lib.hid hln
        clear hln hc256
        by_cases h1 : (65 : Int) ≤ (c.toNat : Int)
        · have h2 : ¬ (c.toNat : Int) ≤ 90 := fun q => hU ⟨h1, q⟩
          clear hU
          have hNB : Hid (Blk (wr.alloc (.cells #[.int .u8 ((c.toNat : Int))] 5)) wr.heap.size 5 #[.int .u8 ((c.toNat : Int))]) := Lib.hid (Blk.new _ _ _)
          have HO := Lib.hid ((own_below HRW.out ((Below.refl _ _).alloc (Nat.le_refl _) (.cells #[.int .u8 ((c.toNat : Int))] 5))))
          have HX2 := Lib.hid (HB.out.alloc HB.out.size (.cells #[.int .u8 ((c.toNat : Int))] 5))
          have HLS : Hid (bvs ((l.take (k + 1)).map P8.low) = bvs ((l.take k).map P8.low) ++ [.int .u8 ((c.toNat : Int))]) := Lib.hid (by rw [take_low l k c HCC.out, bvs_snoc, HL.out])
          go_wp2_with (at_builtin; refine wpList_append_own _ rfl _ _ 39 rfl w.heap.size 5 i0 _ 1 1 Tryd.underlying39 hi hz0 hz1 hz2 rfl (by decide) _ _ _ rfl HO.out ⟨wr.heap.size, 0, none⟩ 1 1 [.int .u8 ((c.toNat : Int))] rfl rfl (blk_cells hNB.out) (by simp [Value.oneCell']) (by simp only [maxLen]; omega) (by omega) HX2.out.size ?_)
          intro v1 wa hown hgr hne
          have HX3 := Lib.hid (own_grown HX2.out HO.out hgr HX2.out.size (Nat.le_refl _))
          have HRW2 : Hid (wa.ownsRow w.heap.size 5 1 v1 (k + 1) (bvs ((l.take (k + 1)).map P8.low))) := Lib.hid (by rw [HLS.out, List.map_take]; exact hown)
          clear hown hgr hne HO HX2 hNB HLS
          go_wp2_with fail
          go_roundw
          case rel => exact ⟨k + 1, by omega, by go_num, HRW2.out, HX3.out⟩
          case measure => simp [intOf]; omega
        · clear hU
          have hNB : Hid (Blk (wr.alloc (.cells #[.int .u8 ((c.toNat : Int))] 5)) wr.heap.size 5 #[.int .u8 ((c.toNat : Int))]) := Lib.hid (Blk.new _ _ _)
          have HO := Lib.hid ((own_below HRW.out ((Below.refl _ _).alloc (Nat.le_refl _) (.cells #[.int .u8 ((c.toNat : Int))] 5))))
          have HX2 := Lib.hid (HB.out.alloc HB.out.size (.cells #[.int .u8 ((c.toNat : Int))] 5))
          have HLS : Hid (bvs ((l.take (k + 1)).map P8.low) = bvs ((l.take k).map P8.low) ++ [.int .u8 ((c.toNat : Int))]) := Lib.hid (by rw [take_low l k c HCC.out, bvs_snoc, HL.out])
          go_wp2_with (at_builtin; refine wpList_append_own _ rfl _ _ 39 rfl w.heap.size 5 i0 _ 1 1 Tryd.underlying39 hi hz0 hz1 hz2 rfl (by decide) _ _ _ rfl HO.out ⟨wr.heap.size, 0, none⟩ 1 1 [.int .u8 ((c.toNat : Int))] rfl rfl (blk_cells hNB.out) (by simp [Value.oneCell']) (by simp only [maxLen]; omega) (by omega) HX2.out.size ?_)
          intro v1 wa hown hgr hne
          have HX3 := Lib.hid (own_grown HX2.out HO.out hgr HX2.out.size (Nat.le_refl _))
          have HRW2 : Hid (wa.ownsRow w.heap.size 5 1 v1 (k + 1) (bvs ((l.take (k + 1)).map P8.low))) := Lib.hid (by rw [HLS.out, List.map_take]; exact hown)
          clear hown hgr hne HO HX2 hNB HLS
          go_wp2_with fail
          go_roundw
          case rel => exact ⟨k + 1, by omega, by go_num, HRW2.out, HX3.out⟩
          case measure => simp [intOf]; omega
    · obtain rfl : k = l.length := by omega
      have hk0 := HRW.out
      rw [List.take_length] at hk0
      by_cases hl0 : 0 < l.length
      · obtain ⟨B, cap, rfl, hB, hBl, hcap, hcs⟩ := own_form hk0 hl0
        have hcb := conv_own (P := Tryd.prog) Tryd.underlying39 Tryd.underlying5 Tryd.underlying9 wr B l.length cap (l.map P8.low) (by simp) hcs
        clear hk0 hcs
        go_wp2_with fail
        go_ret
        exact ⟨rfl, HB.out⟩
      · have hl : l = [] := List.eq_nil_of_length_eq_zero (by omega)
        subst hl
        have hcb : (convert 39 9 u3).run Tryd.prog wr = .ok (.string (str [])) wr := by
          rcases hk0.2 with ⟨rfl, _⟩ | ⟨g, cap, cur, rfl, _⟩
          · rw [run_convert_bytes_string wr _ _ _ _ _ _ Tryd.underlying39 Tryd.underlying5 Tryd.underlying9]; rfl
          · exact conv_own (P := Tryd.prog) Tryd.underlying39 Tryd.underlying5 Tryd.underlying9 wr g 0 cap [] rfl (fun k u hu => by simp [bvs] at hu)
        go_wp2_with fail
        go_ret
        exact ⟨rfl, HB.out⟩

theorem str_take8 (l : List UInt8) (i : Nat) : (str l).extract 0 i = str (l.take i) := by
  apply ByteArray.ext
  simp [str, ByteArray.data_extract]
set_option maxRecDepth 100000 in
set_option maxHeartbeats 8000000 in
theorem rfind_any (g c : Nat) (L : List (List UInt8)) (s : ByteArray) (w : World) (hL : Rd w g (wcells L)) (hlen : L.length ≤ 1000) (hw : ∀ j, j < L.length → (P8.word L j).length ≤ 1000) (hne : ∀ j, j < L.length → P8.word L j ≠ []) (hs : s.size ≤ 1000000) :
    Calls Tryd.prog 62 #[.slice (some ⟨g, 0, none⟩) L.length c, .string s] w fun e w' => e = .returned (.tuple (if (P8.find (s.data.toList.map P8.low) L).2 = true then #[.int .i64 (P8.find (s.data.toList.map P8.low) L).1, .int .i64 0] else #[.int .i64 0, .int .i64 8])) ∧ Below w.heap.size w w' := by
  obtain ⟨q, hq⟩ : ∃ q, s.data.toList.map P8.low = q := ⟨_, rfl⟩
  have hsm : ∀ W, Calls Tryd.prog 75 #[.string s] W fun e w' => e = .returned (.string (str q)) ∧ Below W.heap.size W w' := fun W => by rw [← hq]; exact rsmall_any s W hs
  have hql : q.length ≤ 1000000 := by rw [← hq, List.length_map]; exact hs
  rw [hq]
  obtain ⟨R, hR⟩ : ∃ R : Array Value, (if (P8.find q L).2 = true then #[.int .i64 (P8.find q L).1, .int .i64 0] else #[.int .i64 0, .int .i64 8]) = R := ⟨_, rfl⟩
  rw [hR]
  have HR := Lib.hid hR
  clear hR
  have HSM := Lib.hid hsm; have HL := Lib.hid hL; have HW := Lib.hid hw; have HN := Lib.hid hne
  clear hq hsm hL hw hne
  have hqs := str_size q
  go_enter Tryd.func62, Tryd.ntmps62
  go_wp2_with (go_at_call 75; refine (HSM.out _).mono ?_; rintro e w1 ⟨rfl, hb1⟩)
  go_loopw [6, 7, 8] (fun f n i W => ∃ k : Nat, k ≤ L.length ∧ i = .int .i64 k ∧ f = .int .i64 (P8.last (P8.hits q L k) (-1)) ∧ n = .int .i64 (P8.hits q L k).length ∧ W = w1 ∧ Hid (∀ j, j < k → P8.word L j ≠ q)) (fun _ _ i _ => L.length - (intOf i).toNat)
  case atStart => exact ⟨0, Nat.zero_le _, rfl, rfl, rfl, rfl, Lib.hid (fun j hj => absurd hj (Nat.not_lt_zero _))⟩
  case round =>
    obtain ⟨k, hk, rfl, rfl, rfl, rfl, hno⟩ := hrel
    have HL1 := Lib.hid (HL.out.belowS hb1)
    by_cases hlt : k < L.length
    · have cg := HL1.out.cell k _ (wcells_get L k hlt)
      have hki : (k : Int) < (L.length : Int) := by omega
      have hwl := HW.out k hlt
      have hws := str_size (P8.word L k)
      have hh := P8.hits_len q L k
      have hw1 : wrap64 (((P8.hits q L k).length : Int) + 1) = ((P8.hits q L k).length : Int) + 1 := by unfold wrap64; omega
      by_cases he : P8.word L k = q
      · have hqq : ((str (P8.word L k)).toList == (str q).toList) = true := by rw [he]; simp
        have HF := Lib.hid (P8.ref_found hlt HN.out hno.out he)
        clear he
        go_wp2_with fail
        go_ret2
        rw [← HR.out, HF.out]
        exact ⟨rfl, hb1⟩
      · have hqq : ((str (P8.word L k)).toList == (str q).toList) = false := by rw [str_list, str_list]; simpa using he
        have HBE := Lib.hid (P8.longer (s := q) he)
        have HNO : Hid (∀ j, j < k + 1 → P8.word L j ≠ q) := Lib.hid (fun j hj => by
          rcases Nat.lt_or_ge j k with h | h
          · exact hno.out j h
          · rw [show j = k by omega]; exact he)
        clear he hno
        by_cases hq0 : q = []
        · have he : (str q).toList.isEmpty = true := by rw [str_list, hq0]; rfl
          have HB : Hid (P8.hits q L (k + 1) = P8.hits q L k) := Lib.hid (P8.hits_no (by rw [HBE.out, hq0]; rfl))
          clear hq0
          go_wp2_with fail
          go_roundw
          case rel => exact ⟨k + 1, by omega, by go_num, by rw [HB.out], by rw [HB.out], trivial, HNO⟩
          case measure => simp [intOf]; omega
        · have he : (str q).toList.isEmpty = false := by rw [str_list]; cases q with | nil => exact absurd rfl hq0 | cons a s => rfl
          have hq1 : q.isEmpty = false := by cases q with | nil => exact absurd rfl hq0 | cons a s => rfl
          clear hq0
          by_cases hl1 : q.length < (P8.word L k).length
          · have hl2 : (q.length : Int) < ((P8.word L k).length : Int) := by omega
            have hex := str_take8 (P8.word L k) q.length
            cases hb : (P8.word L k).take q.length == q with
            | true =>
              have hbb : ((str ((P8.word L k).take q.length)).toList == (str q).toList) = true := by rw [str_list, str_list]; exact hb
              have HB : Hid (P8.hits q L (k + 1) = P8.hits q L k ++ [k]) := Lib.hid (P8.hits_yes (by rw [HBE.out, hq1, hb]; simpa using hl1))
              clear hb
              go_wp2_with fail
              go_roundw
              case rel => exact ⟨k + 1, by omega, by go_num, by rw [HB.out, P8.last_snoc], by rw [HB.out, List.length_append]; rfl, trivial, HNO⟩
              case measure => simp [intOf]; omega
            | false =>
              have hbb : ((str ((P8.word L k).take q.length)).toList == (str q).toList) = false := by rw [str_list, str_list]; exact hb
              have HB : Hid (P8.hits q L (k + 1) = P8.hits q L k) := Lib.hid (P8.hits_no (by rw [HBE.out, hb, Bool.and_false]))
              clear hb
              go_wp2_with fail
              go_roundw
              case rel => exact ⟨k + 1, by omega, by go_num, by rw [HB.out], by rw [HB.out], trivial, HNO⟩
              case measure => simp [intOf]; omega
          · have hl2 : ¬ (q.length : Int) < ((P8.word L k).length : Int) := by omega
            have HB : Hid (P8.hits q L (k + 1) = P8.hits q L k) := Lib.hid (P8.hits_no (by rw [HBE.out, decide_eq_false hl1, Bool.and_false, Bool.false_and]))
            go_wp2_with fail
            go_roundw
            case rel => exact ⟨k + 1, by omega, by go_num, by rw [HB.out], by rw [HB.out], trivial, HNO⟩
            case measure => simp [intOf]; omega
    · obtain rfl : k = L.length := by omega
      have HF := Lib.hid (P8.ref_all (s := q) (L := L) hno.out (-1))
      by_cases h1 : (P8.hits q L L.length).length = 1
      · have h1b : (((P8.hits q L L.length).length : Int) != 1) = false := by rw [bne_eq_false_iff_eq]; omega
        have HG := Lib.hid (HF.out.2 h1)
        clear h1
        go_wp2_with fail
        go_ret2
        rw [← HR.out, HG.out]
        exact ⟨rfl, hb1⟩
      · have h1b : (((P8.hits q L L.length).length : Int) != 1) = true := by rw [bne_iff_ne]; omega
        have HG := Lib.hid (HF.out.1 h1)
        clear h1
        go_wp2_with fail
        go_ret2
        rw [← HR.out, HG.out]
        exact ⟨rfl, hb1⟩
end Go.Proofs.YtggdfgdnpicepaaDoor
