/- Texts of one proof, one behind the other: Copy14; Sam14d; Turns30; Of30; Num30; Plain21b; Fmt21a; Fmt21b; Fmt21c; Nam21; Nam21b. -/
import Derived.Test.YtlideagcmhlkeaaDoorRF3
import Derived.IntWalk
import Derived.BigQuiet
import Derived.Deep.RegionHeld3
import Derived.Deep.WholeRow
import Derived.Shelf.GgClosure.StringsIndexFunc
import Derived.Laws.CopyOwn

/- The reference's copy of a source (chapter 14): the same values in rows of its own. -/
namespace Go.Proofs.YtlideagcmhlkeaaDoor
open Go.RowKit Go.Lib
set_option linter.unusedVariables false
set_option linter.unusedSimpArgs false

set_option maxRecDepth 100000 in
set_option maxHeartbeats 16000000 in
theorem copy14 (s : SV) (w : World) (hS : SrcIn w s) (hf : Few30 s) :
    Calls Tryd.prog 28 #[.agg #[.slice s.rA s.rules.length s.rc, .slice s.zA s.zones.length s.zc, .slice s.kA s.links.length s.kc, .slice s.hA s.shifts.length s.hc]] w fun x w' => ∃ t : SV, x = .returned (.agg #[.slice t.rA t.rules.length t.rc, .slice t.zA t.zones.length t.zc, .slice t.kA t.links.length t.kc, .slice t.hA t.shifts.length t.hc]) ∧ CopyOf w' (w.heap.size + 2) s t ∧ Below w.heap.size w w' := by
  have HS := Lib.hid hS; have HFW := Lib.hid hf
  have hl1 := hf.lens.1; have hl2 := hf.lens.2.1; have hl3 := hf.lens.2.2.1; have hl4 := hf.lens.2.2.2
  clear hS hf
  have hb0 := ((Below.refl w.heap.size w).alloc (Nat.le_refl _) (.cells #[.slice s.rA s.rules.length s.rc, .slice s.zA s.zones.length s.zc, .slice s.kA s.links.length s.kc, .slice s.hA s.shifts.length s.hc] 32)).alloc (by simp) (.cells #[.slice none 0 0, .slice none 0 0, .slice none 0 0, .slice none 0 0] 32)
  have hx0 := (Blk.new w 32 #[.slice s.rA s.rules.length s.rc, .slice s.zA s.zones.length s.zc, .slice s.kA s.links.length s.kc, .slice s.hA s.shifts.length s.hc]).alloc (.cells #[.slice none 0 0, .slice none 0 0, .slice none 0 0, .slice none 0 0] 32)
  have hr0 := Blk.newAt (w.alloc (.cells #[.slice s.rA s.rules.length s.rc, .slice s.zA s.zones.length s.zc, .slice s.kA s.links.length s.kc, .slice s.hA s.shifts.length s.hc] 32)) (w.heap.size + 1) (by simp) 32 #[.slice none 0 0, .slice none 0 0, .slice none 0 0, .slice none 0 0]
  go_enter Tryd.func28, Tryd.ntmps28
  go_upto_region 1 with fail
  refine wp_region_shape [(some 5, []), (some 6, []), (some 7, [1]), (some 8, [0, 2]), (some 9, []), (some 10, []), (some 11, [5]), (some 12, [4, 6, 3]), (some 13, []), (some 14, []), (some 15, [9]), (some 16, [8, 10, 7]), (some 17, [3, 7, 11]), (some 3, []), (none, [13, 12, 11, 0, 1, 2, 3, 4, 5, 6, 7, 8, 9, 10, 11, 12, 13])] (fun y => { tmps := #[.agg #[.slice s.rA s.rules.length s.rc, .slice s.zA s.zones.length s.zc, .slice s.kA s.links.length s.kc, .slice s.hA s.shifts.length s.hc], .pointer (some ⟨w.heap.size, 0, none⟩), .pointer (some ⟨w.heap.size + 1, 0, none⟩), y 3, undef, y 5, y 6, y 7, y 8, y 9, y 10, y 11, y 12, y 13, y 14, y 15, y 16, y 17, undef, undef, undef, undef, undef, undef, undef, undef, undef, undef, undef, undef, undef, undef, undef, undef, undef, undef, undef, undef, undef, undef, undef, undef, undef, undef, undef, undef], defers := [] }) (fun _ => undef) (fun j => j == 0 || j == 3 || j == 4 || j == 7 || j == 8 || j == 11 || j == 12 || j == 13 || j == 14) [undef, .pointer (some ⟨w.heap.size, 0, none⟩), .slice s.rA s.rules.length s.rc, undef, undef, .pointer (some ⟨w.heap.size, 2, none⟩), .slice s.kA s.links.length s.kc, undef, undef, .pointer (some ⟨w.heap.size, 3, none⟩), .slice s.hA s.shifts.length s.hc, undef, undef, undef, undef] (fun j y W => match j with | 0 => Lit0 W (w.heap.size + 2) 83 11 (y 5) | 3 => ∃ A c, y 8 = .slice A s.rules.length c ∧ RowOf W (w.heap.size + 2) 83 11 RV.cells A c s.rules | 4 => Lit0 W (w.heap.size + 2) 94 2 (y 9) | 7 => ∃ A c, y 12 = .slice A s.links.length c ∧ RowOf W (w.heap.size + 2) 94 2 KV.cells A c s.links | 8 => Lit0 W (w.heap.size + 2) 9 1 (y 13) | 11 => ∃ A c, y 16 = .slice A s.shifts.length c ∧ RowOf W (w.heap.size + 2) 9 1 (fun b : ByteArray => [Value.string b]) A c s.shifts | 12 => ∃ A1 c1 A2 c2 A3 c3, y 17 = .agg #[.slice A1 s.rules.length c1, .slice none 0 0, .slice A2 s.links.length c2, .slice A3 s.shifts.length c3] ∧ RowOf W (w.heap.size + 2) 83 11 RV.cells A1 c1 s.rules ∧ RowOf W (w.heap.size + 2) 94 2 KV.cells A2 c2 s.links ∧ RowOf W (w.heap.size + 2) 9 1 (fun b : ByteArray => [Value.string b]) A3 c3 s.shifts | 13 => ∃ g, (y 3 = .pointer (some ⟨g, 0, none⟩) ∧ w.heap.size + 2 ≤ g) ∧ ∃ a b c d, Blk W g 32 #[a, b, c, d] | 14 => ∃ g A1 c1 A2 c2 A3 c3, (y 3 = .pointer (some ⟨g, 0, none⟩) ∧ w.heap.size + 2 ≤ g) ∧ Blk W g 32 #[.slice A1 s.rules.length c1, .slice none 0 0, .slice A2 s.links.length c2, .slice A3 s.shifts.length c3] ∧ RowOf W (w.heap.size + 2) 83 11 RV.cells A1 c1 s.rules ∧ RowOf W (w.heap.size + 2) 94 2 KV.cells A2 c2 s.links ∧ RowOf W (w.heap.size + 2) 9 1 (fun b : ByteArray => [Value.string b]) A3 c3 s.shifts | _ => True) (fun j => match j with | 0 => [5] | 3 => [8] | 4 => [9] | 7 => [12] | 8 => [13] | 11 => [16] | 12 => [17] | 13 => [3] | 14 => [3] | _ => []) (GS) (fun W => Below w.heap.size w W ∧ Blk W w.heap.size 32 #[.slice s.rA s.rules.length s.rc, .slice s.zA s.zones.length s.zc, .slice s.kA s.links.length s.kc, .slice s.hA s.shifts.length s.hc] ∧ Blk W (w.heap.size + 1) 32 #[.slice none 0 0, .slice none 0 0, .slice none 0 0, .slice none 0 0]) (by kernel_rfl) (by kernel_rfl) (by decide +kernel) rfl ⟨hb0.drew, hx0, hr0⟩ ?hput1 ?hloc1 ?hmono1 ?hstep1 ?hdone1
  case hput1 =>
    intro d hd y v
    simp only [List.filterMap_cons, List.filterMap_nil, List.mem_cons, List.not_mem_nil, or_false] at hd
    rcases hd with rfl | rfl | rfl | rfl | rfl | rfl | rfl | rfl | rfl | rfl | rfl | rfl | rfl | rfl
    all_goals rfl
  case hloc1 =>
    intro j hj y y' W hk hx
    have hj' : j = 0 ∨ j = 3 ∨ j = 4 ∨ j = 7 ∨ j = 8 ∨ j = 11 ∨ j = 12 ∨ j = 13 ∨ j = 14 := by simpa [or_assoc] using hj
    rcases hj' with rfl | rfl | rfl | rfl | rfl | rfl | rfl | rfl | rfl
    · simp only [List.forall_mem_cons, List.not_mem_nil, false_imp_iff, implies_true, and_true] at hk
      show _
      simpa only [hk] using hx
    · simp only [List.forall_mem_cons, List.not_mem_nil, false_imp_iff, implies_true, and_true] at hk
      show _
      simpa only [hk] using hx
    · simp only [List.forall_mem_cons, List.not_mem_nil, false_imp_iff, implies_true, and_true] at hk
      show _
      simpa only [hk] using hx
    · simp only [List.forall_mem_cons, List.not_mem_nil, false_imp_iff, implies_true, and_true] at hk
      show _
      simpa only [hk] using hx
    · simp only [List.forall_mem_cons, List.not_mem_nil, false_imp_iff, implies_true, and_true] at hk
      show _
      simpa only [hk] using hx
    · simp only [List.forall_mem_cons, List.not_mem_nil, false_imp_iff, implies_true, and_true] at hk
      show _
      simpa only [hk] using hx
    · simp only [List.forall_mem_cons, List.not_mem_nil, false_imp_iff, implies_true, and_true] at hk
      show _
      simpa only [hk] using hx
    · simp only [List.forall_mem_cons, List.not_mem_nil, false_imp_iff, implies_true, and_true] at hk
      show _
      simpa only [hk] using hx
    · simp only [List.forall_mem_cons, List.not_mem_nil, false_imp_iff, implies_true, and_true] at hk
      show _
      simpa only [hk] using hx
  case hmono1 =>
    intro j hj hlast y W W' hg hx
    have hj' : j = 0 ∨ j = 3 ∨ j = 4 ∨ j = 7 ∨ j = 8 ∨ j = 11 ∨ j = 12 ∨ j = 13 ∨ j = 14 := by simpa [or_assoc] using hj
    rcases hj' with rfl | rfl | rfl | rfl | rfl | rfl | rfl | rfl | rfl
    · exact Lit0.pass hg (by decide) hx
    · exact passR (p := fun A c => y 8 = .slice A s.rules.length c) hg (by decide) hx
    · exact Lit0.pass hg (by decide) hx
    · exact passR (p := fun A c => y 12 = .slice A s.links.length c) hg (by decide) hx
    · exact Lit0.pass hg (by decide) hx
    · exact passR (p := fun A c => y 16 = .slice A s.shifts.length c) hg (by decide) hx
    · obtain ⟨A1, c1, A2, c2, A3, c3, h1, h2, h3, h4⟩ := hx; exact ⟨A1, c1, A2, c2, A3, c3, h1, hg.row (by decide) h2, hg.row (by decide) h3, hg.row (by decide) h4⟩
    · exact passS (p := fun g => y 3 = .pointer (some ⟨g, 0, none⟩) ∧ w.heap.size + 2 ≤ g) hg hx
    · exact absurd hlast (by decide)
  case hdone1 =>
    intro yy W1 hS hd
    have x14 : (fun (y : Nat → Value) (W : World) => ∃ g A1 c1 A2 c2 A3 c3, (y 3 = .pointer (some ⟨g, 0, none⟩) ∧ w.heap.size + 2 ≤ g) ∧ Blk W g 32 #[.slice A1 s.rules.length c1, .slice none 0 0, .slice A2 s.links.length c2, .slice A3 s.shifts.length c3] ∧ RowOf W (w.heap.size + 2) 83 11 RV.cells A1 c1 s.rules ∧ RowOf W (w.heap.size + 2) 94 2 KV.cells A2 c2 s.links ∧ RowOf W (w.heap.size + 2) 9 1 (fun b : ByteArray => [Value.string b]) A3 c3 s.shifts) yy W1 := (hd 14 (by decide)).ex rfl
    obtain ⟨hb, hx, hr⟩ := hS
    obtain ⟨g, A1, c1, A2, c2, A3, c3, ⟨e6, hg2⟩, hbg, hrow1, hrow2, hrow3⟩ := x14
    rw [e6]
    clear hd
    have HEA := Lib.hid (show Ea w W1 s (fun e => e) W1.heap.size g A1 c1 A2 c2 A3 c3 none 0 [] 0 from ⟨hx, hr, hbg, hrow1, hrow2, hrow3, World.ownsRow_nil .., ⟨⟨by simp, fun i z y h => by simp at h⟩, fun i y h => by simp at h, fun i j y z _ h => by simp at h⟩, hb, hg2, hbg.lt, Nat.le_refl _⟩)
    have hl2' : (s.zones.length : Int) ≤ 1000 := by omega
    clear hx hr hbg hrow1 hrow2 hrow3 hb e6 hg2 hb0 hx0 hr0
    go_wp2_with fail
    go_loopw [4] (fun i W => ∃ k : Nat, k ≤ s.zones.length ∧ i = .int .i64 k ∧ ∃ zA zc Y, Ea w W s (fun e => e) W1.heap.size g A1 c1 A2 c2 A3 c3 zA zc Y k) (fun i _ => s.zones.length - (intOf i).toNat)
    case atStart => exact ⟨0, Nat.zero_le _, rfl, none, 0, [], HEA.out⟩
    case round =>
      clear HEA
      obtain ⟨k, hk, rfl, zA, zc, Y, hea⟩ := hrel
      have HEA := Lib.hid hea
      have c1' := (hea.src.cell 1).trans rfl
      by_cases hlt : k < s.zones.length
      · have hki : (k : Int) < (s.zones.length : Int) := by omega
        have hk0 : (0 : Int) ≤ (k : Int) := by omega
        obtain ⟨z, hz⟩ : ∃ z, s.zones[k]? = some z := ⟨_, List.getElem?_eq_getElem hlt⟩
        obtain ⟨gz, oz, hzA, hgz, haz⟩ := (HS.out.zones.below hea.bel) k z hz
        rw [hzA] at c1'
        have n0 : wr.cell? ⟨gz, oz + k * 2, none⟩ = some (.string z.name) := haz 0 _ rfl
        have n1 : wr.cell? ⟨gz, oz + k * 2 + 1, none⟩ = some (.slice z.A z.eras.length z.c) := haz 1 _ rfl
        have d1 := (hea.own.cell 1).trans rfl
        have HZM := Lib.hid (List.mem_of_getElem? hz)
        have hle := HFW.out.eras z HZM.out
        have HEW := Lib.hid (HS.out.eras z HZM.out)
        have hgw : gz < w.heap.size ∧ w.cell? ⟨gz, oz + k * 2, none⟩ = some (.string z.name) ∧ w.cell? ⟨gz, oz + k * 2 + 1, none⟩ = some (.slice z.A z.eras.length z.c) := by
          obtain ⟨g', o', hA', hg', hc'⟩ := HS.out.zones k z hz
          rw [hzA] at hA'
          injection hA' with e
          injection e with e1 e2
          subst e1
          subst e2
          exact ⟨hg', hc' 0 _ rfl, hc' 1 _ rfl⟩
        have HGZ := Lib.hid hgw.1; have HN0 := Lib.hid hgw.2.1; have HN1 := Lib.hid hgw.2.2
        have HZA := Lib.hid hzA
        have HYL : Hid (Y.length ≤ 1000) := Lib.hid (by have h1 := HEA.out.zin.same.1; rw [List.length_take, List.length_map] at h1; omega)
        have HGL : Hid (W1.heap.size ≤ wr.heap.size) := Lib.hid hea.gle.2.2
        have HGB : Hid (w.heap.size + 2 ≤ g ∧ g < W1.heap.size) := Lib.hid ⟨hea.gle.1, hea.gle.2.1⟩
        have HZ0 : Hid (∀ K, (Value.slice zA Y.length zc).ownBlock = some K → K < wr.heap.size) := Lib.hid fun K hK => (World.ownsRow.lt hea.zrow K hK).2
        have HKZ := Lib.hid hz; have HLT := Lib.hid hlt
        have hS0 := hea.toEb (Below.refl wr.heap.size wr)
        have HS0 := Lib.hid hS0
        clear hea haz hz hzA hlt hgw n0 n1 d1 hS0 hgz
        go_wp2_with fail
        clear c1'
        refine wp_region_shapeB [(some 25, []), (some 26, [0]), (some 27, []), (some 28, [2]), (some 29, []), (some 30, [3, 4]), (some 31, [5]), (some 32, [6]), (some 33, []), (some 34, []), (some 35, [9]), (some 36, []), (some 37, [10, 11]), (some 38, [12]), (some 39, [13]), (some 40, [8, 14]), (some 41, [7, 15]), (some 42, [16]), (some 43, [1, 17, 15]), (some 44, [0, 1, 2, 3, 4, 5, 6, 7, 8, 9, 10, 11, 12, 13, 14, 15, 16, 17, 18]), (none, [19, 18, 18, 0, 1, 2, 3, 4, 5, 6, 7, 8, 9, 10, 11, 12, 13, 14, 15, 16, 17, 18])] (fun y => { tmps := #[.agg #[.slice s.rA s.rules.length s.rc, .slice s.zA s.zones.length s.zc, .slice s.kA s.links.length s.kc, .slice s.hA s.shifts.length s.hc], .pointer (some ⟨w.heap.size, 0, none⟩), .pointer (some ⟨w.heap.size + 1, 0, none⟩), .pointer (some ⟨g, 0, none⟩), .int .i64 k, yy 5, yy 6, yy 7, yy 8, yy 9, yy 10, yy 11, yy 12, yy 13, yy 14, yy 15, yy 16, yy 17, .int .i64 k, .pointer (some ⟨w.heap.size, 1, none⟩), .slice (some ⟨gz, oz, none⟩) s.zones.length s.zc, .int .i64 s.zones.length, .bool true, u23, u24, y 25, y 26, y 27, y 28, y 29, y 30, y 31, y 32, y 33, y 34, y 35, y 36, y 37, y 38, y 39, y 40, y 41, y 42, y 43, y 44, undef], defers := [] }) (fun k => match k with | 25 => u25 | 26 => u26 | 27 => u27 | 28 => u28 | 29 => u29 | 30 => u30 | 31 => u31 | 32 => u32 | 33 => u33 | 34 => u34 | 35 => u35 | 36 => u36 | 37 => u37 | 38 => u38 | 39 => u39 | 40 => u40 | 41 => u41 | 42 => u42 | 43 => u43 | 44 => u44 | _ => undef) (fun j => j == 8 || j == 15 || j == 16 || j == 17 || j == 18 || j == 20) [.pointer (some ⟨g, 1, none⟩), .slice zA Y.length zc, .pointer (some ⟨w.heap.size, 1, none⟩), .slice (some ⟨gz, oz, none⟩) s.zones.length s.zc, .int .i64 k, .pointer (some ⟨gz, oz + k * 2, none⟩), .pointer (some ⟨gz, oz + k * 2, none⟩), .string z.name, undef, .pointer (some ⟨w.heap.size, 1, none⟩), .slice (some ⟨gz, oz, none⟩) s.zones.length s.zc, .int .i64 k, .pointer (some ⟨gz, oz + k * 2, none⟩), .pointer (some ⟨gz, oz + k * 2 + 1, none⟩), .slice z.A z.eras.length z.c, undef, undef, undef, undef, .pointer (some ⟨g, 1, none⟩), undef] (fun j y W => match j with | 8 => Lit0 W wr.heap.size 47 13 (y 33) | 15 => ∃ A c, y 40 = .slice A z.eras.length c ∧ RowOf W wr.heap.size 47 13 EV.cells A c z.eras | 16 => ∃ A c, y 41 = .agg #[.string z.name, .slice A z.eras.length c] ∧ RowOf W wr.heap.size 47 13 EV.cells A c z.eras | 17 => ∃ B A c, y 42 = .slice (some ⟨B, 0, none⟩) 1 1 ∧ wr.heap.size ≤ B ∧ Blk W B 39 #[.string z.name, .slice A z.eras.length c] ∧ RowOf W wr.heap.size 47 13 EV.cells A c z.eras | 18 => ∃ zA' zc' A c, y 43 = .slice zA' (Y.length + 1) zc' ∧ RowOf W W1.heap.size 39 2 ZV.cells zA' zc' (Y ++ [⟨z.name, A, c, z.eras⟩]) ∧ RowOf W wr.heap.size 47 13 EV.cells A c z.eras | 20 => ∃ zA' zc' A c, RowOf W W1.heap.size 39 2 ZV.cells zA' zc' (Y ++ [⟨z.name, A, c, z.eras⟩]) ∧ RowOf W wr.heap.size 47 13 EV.cells A c z.eras ∧ Blk W g 32 #[.slice A1 s.rules.length c1, .slice zA' (Y.length + 1) zc', .slice A2 s.links.length c2, .slice A3 s.shifts.length c3] | _ => True) (fun j => match j with | 8 => [33] | 15 => [40] | 16 => [41] | 17 => [42] | 18 => [43] | 20 => [] | _ => []) 18 (fun b => GZ wr.heap.size b) (fun b W => Eb w W s (fun e => e) W1.heap.size g A1 c1 A2 c2 A3 c3 zA zc Y k b wr) (by kernel_rfl) (by kernel_rfl) (by decide +kernel) rfl (HS0.out.below (Below.refl _ _).drew) ?hput5 ?hloc5 ?hmono5 ?hstep5 ?hdone5
        case hput5 =>
          intro d hd y v
          simp only [List.filterMap_cons, List.filterMap_nil, List.mem_cons, List.not_mem_nil, or_false] at hd
          rcases hd with rfl | rfl | rfl | rfl | rfl | rfl | rfl | rfl | rfl | rfl | rfl | rfl | rfl | rfl | rfl | rfl | rfl | rfl | rfl | rfl
          all_goals rfl
        case hloc5 =>
          intro j hj y y' W hk hx
          have hj' : j = 8 ∨ j = 15 ∨ j = 16 ∨ j = 17 ∨ j = 18 ∨ j = 20 := by simpa [or_assoc] using hj
          rcases hj' with rfl | rfl | rfl | rfl | rfl | rfl
          · simp only [List.forall_mem_cons, List.not_mem_nil, false_imp_iff, implies_true, and_true] at hk
            show _
            simpa only [hk] using hx
          · simp only [List.forall_mem_cons, List.not_mem_nil, false_imp_iff, implies_true, and_true] at hk
            show _
            simpa only [hk] using hx
          · simp only [List.forall_mem_cons, List.not_mem_nil, false_imp_iff, implies_true, and_true] at hk
            show _
            simpa only [hk] using hx
          · simp only [List.forall_mem_cons, List.not_mem_nil, false_imp_iff, implies_true, and_true] at hk
            show _
            simpa only [hk] using hx
          · simp only [List.forall_mem_cons, List.not_mem_nil, false_imp_iff, implies_true, and_true] at hk
            show _
            simpa only [hk] using hx
          · skip
            exact hx
        case hmono5 =>
          intro j hj hlast b hbq y W W' hg hx
          have hj' : j = 8 ∨ j = 15 ∨ j = 16 ∨ j = 17 ∨ j = 18 ∨ j = 20 := by simpa [or_assoc] using hj
          rcases hj' with rfl | rfl | rfl | rfl | rfl | rfl
          · exact Lit0.passZ hg (by decide) (by decide) hx
          · obtain ⟨A, c, h1, h2⟩ := hx; exact ⟨A, c, h1, hg.row (by decide) (by decide) h2⟩
          · obtain ⟨A, c, h1, h2⟩ := hx; exact ⟨A, c, h1, hg.row (by decide) (by decide) h2⟩
          · obtain ⟨B, A, c, h1, h3, h4, h2⟩ := hx; exact ⟨B, A, c, h1, h3, hg.far _ _ _ (by decide) (.inr (.inl h3)) h4, hg.row (by decide) (by decide) h2⟩
          · obtain ⟨zA', zc', A, c, h1, h2, h3⟩ := hx; have hb1 := hbq rfl; subst hb1; exact ⟨zA', zc', A, c, h1, hg.rowT (by decide) h2, hg.row (by decide) (by decide) h3⟩
          · exact absurd hlast (by decide)
        case hdone5 =>
          intro y5 W5 hS hd
          have x20 : (fun (y : Nat → Value) (W : World) => ∃ zA' zc' A c, RowOf W W1.heap.size 39 2 ZV.cells zA' zc' (Y ++ [⟨z.name, A, c, z.eras⟩]) ∧ RowOf W wr.heap.size 47 13 EV.cells A c z.eras ∧ Blk W g 32 #[.slice A1 s.rules.length c1, .slice zA' (Y.length + 1) zc', .slice A2 s.links.length c2, .slice A3 s.shifts.length c3]) y5 W5 := (hd 20 (by decide)).ex rfl
          obtain ⟨zA', zc', A, c, h1, h2, h3⟩ := x20
          have HE7 := Lib.hid (show Ea w W5 s (fun e => e) W1.heap.size g A1 c1 A2 c2 A3 c3 zA' zc' (Y ++ [⟨z.name, A, c, z.eras⟩]) (k + 1) from ⟨hS.src, hS.res, by rw [List.length_append]; exact h3, hS.rules, hS.links, hS.shifts, h1, zones_snocH (z := z) HEA.out.zin (by rw [List.getElem?_map, HKZ.out]; show some (mapE (fun e => e) z) = some z; unfold mapE; rw [List.map_id']) hS.zin HEA.out.gle.2.2 (Nat.le_refl _) h2, hS.bel, HGB.out.1, HGB.out.2, Nat.le_trans HGL.out hS.le⟩)
          clear hd hS h1 h2 h3
          go_wp2_with fail
          go_roundw
          case rel => exact ⟨k + 1, by have := HLT.out; omega, by go_num, zA', zc', Y ++ ([⟨z.name, A, c, z.eras⟩] : List ZV), HE7.out⟩
          case measure => have := HLT.out; simp [intOf]; omega
        case hstep5 =>
          refine StepsOkB.cons (StepOkB.known rfl fun y W b hbq hS hd K' hK => ?_) ?_
          · skip
            clear hd
            go_simp
            exact hK.out _ _ rfl (GZ.refl _ _ _) hS.or
          refine StepsOkB.cons (StepOkB.known rfl fun y W b hbq hS hd K' hK => ?_) ?_
          · skip
            have e25 : y 25 = .pointer (some ⟨g, 1, none⟩) := (hd 0 rfl).val rfl rfl
            clear hd
            have hb1 := hbq.1 (.inr rfl)
            subst hb1
            obtain ⟨v, hv, hv2⟩ := hS.own
            obtain rfl := hv2 rfl
            have hc := (hv.cell 1).trans rfl
            go_simp
            exact hK.out _ _ (by first | rfl | (simp only [e25]; done) | (simp only [e25]; rfl)) (GZ.refl _ _ _) hS.or
          refine StepsOkB.cons (StepOkB.known rfl fun y W b hbq hS hd K' hK => ?_) ?_
          · skip
            clear hd
            go_simp
            exact hK.out _ _ rfl (GZ.refl _ _ _) hS.or
          refine StepsOkB.cons (StepOkB.known rfl fun y W b hbq hS hd K' hK => ?_) ?_
          · skip
            have e27 : y 27 = .pointer (some ⟨w.heap.size, 1, none⟩) := (hd 2 rfl).val rfl rfl
            clear hd
            have hc := (hS.src.cell 1).trans rfl
            rw [HZA.out] at hc
            go_simp
            exact hK.out _ _ (by first | rfl | (simp only [e27]; done) | (simp only [e27]; rfl)) (GZ.refl _ _ _) hS.or
          refine StepsOkB.cons (StepOkB.known rfl fun y W b hbq hS hd K' hK => ?_) ?_
          · skip
            clear hd
            go_simp
            exact hK.out _ _ rfl (GZ.refl _ _ _) hS.or
          refine StepsOkB.cons (StepOkB.known rfl fun y W b hbq hS hd K' hK => ?_) ?_
          · skip
            have e28 : y 28 = .slice (some ⟨gz, oz, none⟩) s.zones.length s.zc := (hd 3 rfl).val rfl rfl
            have e29 : y 29 = .int .i64 k := (hd 4 rfl).val rfl rfl
            clear hd
            go_simp
            exact hK.out _ _ (by first | rfl | (simp only [e28, e29]; done) | (simp only [e28, e29]; rfl)) (GZ.refl _ _ _) hS.or
          refine StepsOkB.cons (StepOkB.known rfl fun y W b hbq hS hd K' hK => ?_) ?_
          · skip
            have e30 : y 30 = .pointer (some ⟨gz, oz + k * 2, none⟩) := (hd 5 rfl).val rfl rfl
            clear hd
            go_simp
            exact hK.out _ _ (by first | rfl | (simp only [e30]; done) | (simp only [e30]; rfl)) (GZ.refl _ _ _) hS.or
          refine StepsOkB.cons (StepOkB.known rfl fun y W b hbq hS hd K' hK => ?_) ?_
          · skip
            have e31 : y 31 = .pointer (some ⟨gz, oz + k * 2, none⟩) := (hd 6 rfl).val rfl rfl
            clear hd
            have hc := (hS.bel.cell (p := ⟨gz, oz + k * 2, none⟩) HGZ.out).trans HN0.out
            go_simp
            exact hK.out _ _ (by first | rfl | (simp only [e31]; done) | (simp only [e31]; rfl)) (GZ.refl _ _ _) hS.or
          refine StepsOkB.cons (StepOkB.other rfl fun y W b hbq hS hd K' hK => ?_) ?_
          · skip
            clear hd
            have hle := hS.le
            go_simp
            exact hK.out _ _ _ rfl (GZ.below _ ((Below.refl _ W).alloc (Nat.le_refl _) _)) (hS.below ((Below.refl _ W).alloc (Nat.le_refl _) _)).or (show Lit0 _ wr.heap.size 47 13 _ from Lit0.made W hle)
          refine StepsOkB.cons (StepOkB.known rfl fun y W b hbq hS hd K' hK => ?_) ?_
          · skip
            clear hd
            go_simp
            exact hK.out _ _ rfl (GZ.refl _ _ _) hS.or
          refine StepsOkB.cons (StepOkB.known rfl fun y W b hbq hS hd K' hK => ?_) ?_
          · skip
            have e34 : y 34 = .pointer (some ⟨w.heap.size, 1, none⟩) := (hd 9 rfl).val rfl rfl
            clear hd
            have hc := (hS.src.cell 1).trans rfl
            rw [HZA.out] at hc
            go_simp
            exact hK.out _ _ (by first | rfl | (simp only [e34]; done) | (simp only [e34]; rfl)) (GZ.refl _ _ _) hS.or
          refine StepsOkB.cons (StepOkB.known rfl fun y W b hbq hS hd K' hK => ?_) ?_
          · skip
            clear hd
            go_simp
            exact hK.out _ _ rfl (GZ.refl _ _ _) hS.or
          refine StepsOkB.cons (StepOkB.known rfl fun y W b hbq hS hd K' hK => ?_) ?_
          · skip
            have e35 : y 35 = .slice (some ⟨gz, oz, none⟩) s.zones.length s.zc := (hd 10 rfl).val rfl rfl
            have e36 : y 36 = .int .i64 k := (hd 11 rfl).val rfl rfl
            clear hd
            go_simp
            exact hK.out _ _ (by first | rfl | (simp only [e35, e36]; done) | (simp only [e35, e36]; rfl)) (GZ.refl _ _ _) hS.or
          refine StepsOkB.cons (StepOkB.known rfl fun y W b hbq hS hd K' hK => ?_) ?_
          · skip
            have e37 : y 37 = .pointer (some ⟨gz, oz + k * 2, none⟩) := (hd 12 rfl).val rfl rfl
            clear hd
            go_simp
            exact hK.out _ _ (by first | rfl | (simp only [e37]; done) | (simp only [e37]; rfl)) (GZ.refl _ _ _) hS.or
          refine StepsOkB.cons (StepOkB.known rfl fun y W b hbq hS hd K' hK => ?_) ?_
          · skip
            have e38 : y 38 = .pointer (some ⟨gz, oz + k * 2 + 1, none⟩) := (hd 13 rfl).val rfl rfl
            clear hd
            have hc := (hS.bel.cell (p := ⟨gz, oz + k * 2 + 1, none⟩) HGZ.out).trans HN1.out
            go_simp
            exact hK.out _ _ (by first | rfl | (simp only [e38]; done) | (simp only [e38]; rfl)) (GZ.refl _ _ _) hS.or
          refine StepsOkB.cons (StepOkB.other rfl fun y W b hbq hS hd K' hK => ?_) ?_
          · skip
            have x8 : (fun (y : Nat → Value) (W : World) => Lit0 W wr.heap.size 47 13 (y 33)) y W := (hd 8 rfl).ex rfl
            have e39 : y 39 = .slice z.A z.eras.length z.c := (hd 14 rfl).val rfl rfl
            clear hd
            obtain ⟨B, h1, h2⟩ := x8
            have hle := hS.le
            obtain ⟨i1, hi, hz0, hz1, hz2⟩ := info_parts infoEra
            refine step_append_lit (by rfl) _ _ 37 (by rfl) wr.heap.size 47 i1 _ 13 120 B Tryd.underlying37 hi hz0 hz1 hz2 rfl (by decide) (by first | rfl | (simp only [h1]; done) | (simp only [h1]; rfl)) h2 z.A z.eras.length z.c (z.eras.flatMap EV.cells) (by first | rfl | (simp only [e39]; rfl)) (fl_len len_era _) (in_news len_era (by decide) (HEW.out.below hS.bel)) (one_fl one_era _) (by simp only [maxLen]; omega) (by omega) hle ?_
            intro A' c' w' hrow hgr
            have hc := grown_below hgr
            exact hK.out _ _ _ rfl (GZ.below _ hc) (hS.below hc).or (show ∃ A c, _ = Value.slice A z.eras.length c ∧ RowOf _ wr.heap.size 47 13 EV.cells A c z.eras from ⟨A', c', rfl, hrow⟩)
          refine StepsOkB.cons (StepOkB.other rfl fun y W b hbq hS hd K' hK => ?_) ?_
          · skip
            have e32 : y 32 = .string z.name := (hd 7 rfl).val rfl rfl
            have x15 : (fun (y : Nat → Value) (W : World) => ∃ A c, y 40 = .slice A z.eras.length c ∧ RowOf W wr.heap.size 47 13 EV.cells A c z.eras) y W := (hd 15 rfl).ex rfl
            clear hd
            obtain ⟨A, c, h1, h2⟩ := x15
            go_simp
            exact hK.out _ _ _ (by first | rfl | (simp only [h1, e32]; done) | (simp only [h1, e32]; rfl)) (GZ.refl _ _ _) hS.or (show ∃ A c, _ = Value.agg #[.string z.name, .slice A z.eras.length c] ∧ RowOf _ wr.heap.size 47 13 EV.cells A c z.eras from ⟨A, c, rfl, h2⟩)
          refine StepsOkB.cons (StepOkB.other rfl fun y W b hbq hS hd K' hK => ?_) ?_
          · skip
            have x16 : (fun (y : Nat → Value) (W : World) => ∃ A c, y 41 = .agg #[.string z.name, .slice A z.eras.length c] ∧ RowOf W wr.heap.size 47 13 EV.cells A c z.eras) y W := (hd 16 rfl).ex rfl
            clear hd
            obtain ⟨A, c, h1, h2⟩ := x16
            have hle := hS.le
            have hal := (Below.refl W.heap.size W).alloc (Nat.le_refl _) (.cells #[.string z.name, .slice A z.eras.length c] 39)
            go_simp
            exact hK.out _ _ _ (by first | rfl | (simp only [h1]; done) | (simp only [h1]; rfl)) (GZ.below _ hal) (hS.below hal).or (show ∃ B A c, _ = Value.slice (some ⟨B, 0, none⟩) 1 1 ∧ wr.heap.size ≤ B ∧ Blk _ B 39 #[.string z.name, .slice A z.eras.length c] ∧ RowOf _ wr.heap.size 47 13 EV.cells A c z.eras from ⟨_, A, c, rfl, hle, Blk.new W _ _, own_below h2 hal⟩)
          refine StepsOkB.cons (StepOkB.other rfl fun y W b hbq hS hd K' hK => ?_) ?_
          · skip
            have e26 : y 26 = .slice zA Y.length zc := (hd 1 rfl).val rfl rfl
            have x17 : (fun (y : Nat → Value) (W : World) => ∃ B A c, y 42 = .slice (some ⟨B, 0, none⟩) 1 1 ∧ wr.heap.size ≤ B ∧ Blk W B 39 #[.string z.name, .slice A z.eras.length c] ∧ RowOf W wr.heap.size 47 13 EV.cells A c z.eras) y W := (hd 17 rfl).ex rfl
            clear hd
            have hb1 := hbq.1 (.inl rfl)
            subst hb1
            obtain ⟨B, A, c, h1, h3, h4, h2⟩ := x17
            have hle := hS.le
            obtain ⟨hz, hbw⟩ := hS.ahead rfl
            obtain ⟨i1, hi, hz0, hz1, hz2⟩ := info_parts infoZone
            refine step_append_own (by rfl) _ _ 28 (by rfl) W1.heap.size 39 i1 _ 2 40 Tryd.underlying28 hi hz0 hz1 hz2 rfl (by decide) (.slice zA Y.length zc) Y.length (Y.flatMap ZV.cells) (by first | rfl | (simp only [e26]; rfl)) hz ⟨B, 0, none⟩ 1 1 [.string z.name, .slice A z.eras.length c] (by first | rfl | (simp only [h1]; rfl)) rfl (blk_cells h4) (by simp [Value.oneCell']) (by have := HYL.out; simp only [maxLen]; omega) (by have := HYL.out; omega) (Nat.le_trans HGL.out hle) ?_
            intro v1 w6 hown hgr
            obtain ⟨zA', zc', rfl⟩ := row_is hown
            have hG := GZ.grown hz HZ0.out hgr
            exact hK.out _ _ _ rfl hG (hS.grown hz hgr HGB.out) (show ∃ zA'' zc'' A c, _ = Value.slice zA'' (Y.length + 1) zc'' ∧ RowOf _ W1.heap.size 39 2 ZV.cells zA'' zc'' (Y ++ [⟨z.name, A, c, z.eras⟩]) ∧ RowOf _ wr.heap.size 47 13 EV.cells A c z.eras from ⟨zA', zc', A, c, rfl, zrow_snoc hown, hG.row (by decide) (by decide) h2⟩)
          refine StepsOkB.cons (StepOkB.known rfl fun y W b hbq hS hd K' hK => ?_) ?_
          · skip
            clear hd
            go_simp
            exact hK.out _ _ rfl (GZ.refl _ _ _) hS.or
          refine StepsOkB.cons (StepOkB.other rfl fun y W b hbq hS hd K' hK => ?_) ?_
          · skip
            have x18 : (fun (y : Nat → Value) (W : World) => ∃ zA' zc' A c, y 43 = .slice zA' (Y.length + 1) zc' ∧ RowOf W W1.heap.size 39 2 ZV.cells zA' zc' (Y ++ [⟨z.name, A, c, z.eras⟩]) ∧ RowOf W wr.heap.size 47 13 EV.cells A c z.eras) y W := (hd 18 rfl).ex rfl
            have e44 : y 44 = .pointer (some ⟨g, 1, none⟩) := (hd 19 rfl).val rfl rfl
            clear hd
            obtain ⟨zA', zc', A, c, h1, h2, h3⟩ := x18
            have hb1 := hbq.2 rfl
            subst hb1
            obtain ⟨v, hv, _⟩ := hS.own
            have k1 := (hv.cell 1).trans rfl
            have f1 := hv.frozen 1
            have t1 := hv.set_ 1 (.slice zA' (Y.length + 1) zc')
            have q1 := GS.set_ hv 1 (.slice zA' (Y.length + 1) zc')
            have hs' := hS.set1 hv (.slice zA' (Y.length + 1) zc') HGB.out
            have HH := Lib.hid (And.intro t1 (And.intro q1 hs'))
            clear t1 q1 hs'
            go_simp
            exact hK.out undef _ _ (by first | rfl | (simp only [h1]; done) | (simp only [h1, e44]; rfl)) (GZ.gs _ HH.out.2.1) HH.out.2.2 (show ∃ zA' zc' A c, RowOf _ W1.heap.size 39 2 ZV.cells zA' zc' (Y ++ [⟨z.name, A, c, z.eras⟩]) ∧ RowOf _ wr.heap.size 47 13 EV.cells A c z.eras ∧ Blk _ g 32 #[.slice A1 s.rules.length c1, .slice zA' (Y.length + 1) zc', .slice A2 s.links.length c2, .slice A3 s.shifts.length c3] from ⟨zA', zc', A, c, HH.out.2.1.row (by decide) h2, HH.out.2.1.row (by decide) h3, HH.out.1⟩)
          exact StepsOkB.nil
      · obtain rfl : k = s.zones.length := by omega
        have p0 := (hea.own.cell 0).trans rfl; have p1 := (hea.own.cell 1).trans rfl; have p2 := (hea.own.cell 2).trans rfl; have p3 := (hea.own.cell 3).trans rfl
        have r0 := (hea.res.cell 0).trans rfl; have r1 := (hea.res.cell 1).trans rfl; have r2 := (hea.res.cell 2).trans rfl; have r3 := (hea.res.cell 3).trans rfl
        have g0 := hea.res.frozen 0; have g1 := hea.res.frozen 1; have g2 := hea.res.frozen 2; have g3 := hea.res.frozen 3
        have hG := GS.set4 hea.res (.slice A1 s.rules.length c1) (.slice zA Y.length zc) (.slice A2 s.links.length c2) (.slice A3 s.shifts.length c3)
        have HG := Lib.hid hG.1
        have k0 := (hG.2.cell 0).trans rfl; have k1 := (hG.2.cell 1).trans rfl; have k2 := (hG.2.cell 2).trans rfl; have k3 := (hG.2.cell 3).trans rfl
        clear hea hG
        go_wp2_with fail
        refine bodyPost_ret (v := .agg #[.slice A1 s.rules.length c1, .slice zA Y.length zc, .slice A2 s.links.length c2, .slice A3 s.shifts.length c3]) (by simp [results, Tryd.results28, go_sem, k0, k1, k2, k3]) rfl ?_
        have hzi := HEA.out.zin
        rw [show mapE (fun e => e) = id from funext fun z => by simp [mapE], List.map_id, List.take_length] at hzi
        have hq := HEA.out.gle
        refine ⟨⟨A1, c1, s.rules, zA, zc, Y, A2, c2, s.links, A3, c3, s.shifts⟩, rfl, CopyOf.gs ⟨⟨rfl, HEA.out.rules⟩, ⟨HEA.out.zrow.low (by omega), hzi.base_le (by omega)⟩, ⟨rfl, HEA.out.links⟩, ⟨rfl, HEA.out.shifts⟩⟩ HG.out, below_set4 HEA.out.bel (Nat.le_succ _) _ _ _ _⟩
  case hstep1 =>
    refine StepsOk.cons (StepOk.other rfl fun y W hS hd K' hK => ?_) ?_
    · skip
      clear hd
      obtain ⟨hb, hx, hr⟩ := hS
      have hle := hr.lt
      go_simp
      exact hK.out _ _ _ rfl (GS.alloc W _) ⟨hb.alloc hb.size _, hx.alloc _, hr.alloc _⟩ (show Lit0 _ (w.heap.size + 2) 83 11 _ from Lit0.made W (by omega))
    refine StepsOk.cons (StepOk.known rfl fun y W hS hd K' hK => ?_) ?_
    · skip
      clear hd
      go_simp
      exact hK.out _ _ rfl (GS.refl _) hS
    refine StepsOk.cons (StepOk.known rfl fun y W hS hd K' hK => ?_) ?_
    · skip
      have e6 : y 6 = .pointer (some ⟨w.heap.size, 0, none⟩) := (hd 1 rfl).val rfl rfl
      clear hd
      have hc := (hS.2.1.cell 0).trans rfl
      go_simp
      exact hK.out _ _ (by first | rfl | (simp only [e6]; done) | (simp only [e6]; rfl)) (GS.refl _) hS
    refine StepsOk.cons (StepOk.other rfl fun y W hS hd K' hK => ?_) ?_
    · skip
      have x0 : (fun (y : Nat → Value) (W : World) => Lit0 W (w.heap.size + 2) 83 11 (y 5)) y W := (hd 0 rfl).ex rfl
      have e7 : y 7 = .slice s.rA s.rules.length s.rc := (hd 2 rfl).val rfl rfl
      clear hd
      obtain ⟨B, h1, h2⟩ := x0
      obtain ⟨hb, hx, hr⟩ := hS
      have hle := hr.lt
      obtain ⟨i1, hi, hz0, hz1, hz2⟩ := info_parts infoRuleC
      refine step_append_lit (by rfl) _ _ 27 (by rfl) (w.heap.size + 2) 83 i1 _ 11 104 B Tryd.underlying27 hi hz0 hz1 hz2 rfl (by decide) (by first | rfl | (simp only [h1]; done) | (simp only [h1]; rfl)) h2 s.rA s.rules.length s.rc (s.rules.flatMap RV.cells) (by first | rfl | (simp only [e7]; rfl)) (fl_len len_rule _) (in_news len_rule (by decide) (HS.out.rules.below hb)) (one_fl one_rule _) (by simp only [maxLen]; omega) (by omega) (by omega) ?_
      intro A' c' w' hrow hgr
      have hc := grown_below hgr
      exact hK.out _ _ _ rfl (GS.below hc) ⟨hb.trans (hc.mono hb.size), hx.below hc hx.lt, hr.below hc hr.lt⟩ (show ∃ A c, _ = Value.slice A s.rules.length c ∧ RowOf _ (w.heap.size + 2) 83 11 RV.cells A c s.rules from ⟨A', c', rfl, hrow⟩)
    refine StepsOk.cons (StepOk.other rfl fun y W hS hd K' hK => ?_) ?_
    · skip
      clear hd
      obtain ⟨hb, hx, hr⟩ := hS
      have hle := hr.lt
      go_simp
      exact hK.out _ _ _ rfl (GS.alloc W _) ⟨hb.alloc hb.size _, hx.alloc _, hr.alloc _⟩ (show Lit0 _ (w.heap.size + 2) 94 2 _ from Lit0.made W (by omega))
    refine StepsOk.cons (StepOk.known rfl fun y W hS hd K' hK => ?_) ?_
    · skip
      clear hd
      go_simp
      exact hK.out _ _ rfl (GS.refl _) hS
    refine StepsOk.cons (StepOk.known rfl fun y W hS hd K' hK => ?_) ?_
    · skip
      have e10 : y 10 = .pointer (some ⟨w.heap.size, 2, none⟩) := (hd 5 rfl).val rfl rfl
      clear hd
      have hc := (hS.2.1.cell 2).trans rfl
      go_simp
      exact hK.out _ _ (by first | rfl | (simp only [e10]; done) | (simp only [e10]; rfl)) (GS.refl _) hS
    refine StepsOk.cons (StepOk.other rfl fun y W hS hd K' hK => ?_) ?_
    · skip
      have x3 : (fun (y : Nat → Value) (W : World) => ∃ A c, y 8 = .slice A s.rules.length c ∧ RowOf W (w.heap.size + 2) 83 11 RV.cells A c s.rules) y W := (hd 3 rfl).ex rfl
      have x4 : (fun (y : Nat → Value) (W : World) => Lit0 W (w.heap.size + 2) 94 2 (y 9)) y W := (hd 4 rfl).ex rfl
      have e11 : y 11 = .slice s.kA s.links.length s.kc := (hd 6 rfl).val rfl rfl
      clear hd
      obtain ⟨B, h1, h2⟩ := x4
      obtain ⟨hb, hx, hr⟩ := hS
      have hle := hr.lt
      obtain ⟨i1, hi, hz0, hz1, hz2⟩ := info_parts infoLink
      refine step_append_lit (by rfl) _ _ 29 (by rfl) (w.heap.size + 2) 94 i1 _ 2 32 B Tryd.underlying29 hi hz0 hz1 hz2 rfl (by decide) (by first | rfl | (simp only [h1]; done) | (simp only [h1]; rfl)) h2 s.kA s.links.length s.kc (s.links.flatMap KV.cells) (by first | rfl | (simp only [e11]; rfl)) (fl_len len_link _) (in_news len_link (by decide) (HS.out.links.below hb)) (one_fl one_link _) (by simp only [maxLen]; omega) (by omega) (by omega) ?_
      intro A' c' w' hrow hgr
      have hc := grown_below hgr
      exact hK.out _ _ _ rfl (GS.below hc) ⟨hb.trans (hc.mono hb.size), hx.below hc hx.lt, hr.below hc hr.lt⟩ (show ∃ A c, _ = Value.slice A s.links.length c ∧ RowOf _ (w.heap.size + 2) 94 2 KV.cells A c s.links from ⟨A', c', rfl, hrow⟩)
    refine StepsOk.cons (StepOk.other rfl fun y W hS hd K' hK => ?_) ?_
    · skip
      clear hd
      obtain ⟨hb, hx, hr⟩ := hS
      have hle := hr.lt
      go_simp
      exact hK.out _ _ _ rfl (GS.alloc W _) ⟨hb.alloc hb.size _, hx.alloc _, hr.alloc _⟩ (show Lit0 _ (w.heap.size + 2) 9 1 _ from Lit0.made W (by omega))
    refine StepsOk.cons (StepOk.known rfl fun y W hS hd K' hK => ?_) ?_
    · skip
      clear hd
      go_simp
      exact hK.out _ _ rfl (GS.refl _) hS
    refine StepsOk.cons (StepOk.known rfl fun y W hS hd K' hK => ?_) ?_
    · skip
      have e14 : y 14 = .pointer (some ⟨w.heap.size, 3, none⟩) := (hd 9 rfl).val rfl rfl
      clear hd
      have hc := (hS.2.1.cell 3).trans rfl
      go_simp
      exact hK.out _ _ (by first | rfl | (simp only [e14]; done) | (simp only [e14]; rfl)) (GS.refl _) hS
    refine StepsOk.cons (StepOk.other rfl fun y W hS hd K' hK => ?_) ?_
    · skip
      have x7 : (fun (y : Nat → Value) (W : World) => ∃ A c, y 12 = .slice A s.links.length c ∧ RowOf W (w.heap.size + 2) 94 2 KV.cells A c s.links) y W := (hd 7 rfl).ex rfl
      have x8 : (fun (y : Nat → Value) (W : World) => Lit0 W (w.heap.size + 2) 9 1 (y 13)) y W := (hd 8 rfl).ex rfl
      have e15 : y 15 = .slice s.hA s.shifts.length s.hc := (hd 10 rfl).val rfl rfl
      clear hd
      obtain ⟨B, h1, h2⟩ := x8
      obtain ⟨hb, hx, hr⟩ := hS
      have hle := hr.lt
      obtain ⟨i1, hi, hz0, hz1, hz2⟩ := info_parts infoStrC
      refine step_append_lit (by rfl) _ _ 30 (by rfl) (w.heap.size + 2) 9 i1 _ 1 16 B Tryd.underlying30 hi hz0 hz1 hz2 rfl (by decide) (by first | rfl | (simp only [h1]; done) | (simp only [h1]; rfl)) h2 s.hA s.shifts.length s.hc (s.shifts.flatMap (fun b : ByteArray => [Value.string b])) (by first | rfl | (simp only [e15]; rfl)) (fl_len len_str _) (in_news len_str (by decide) (HS.out.shifts.below hb)) (one_fl one_str _) (by simp only [maxLen]; omega) (by omega) (by omega) ?_
      intro A' c' w' hrow hgr
      have hc := grown_below hgr
      exact hK.out _ _ _ rfl (GS.below hc) ⟨hb.trans (hc.mono hb.size), hx.below hc hx.lt, hr.below hc hr.lt⟩ (show ∃ A c, _ = Value.slice A s.shifts.length c ∧ RowOf _ (w.heap.size + 2) 9 1 (fun b : ByteArray => [Value.string b]) A c s.shifts from ⟨A', c', rfl, hrow⟩)
    refine StepsOk.cons (StepOk.other rfl fun y W hS hd K' hK => ?_) ?_
    · skip
      have x3 : (fun (y : Nat → Value) (W : World) => ∃ A c, y 8 = .slice A s.rules.length c ∧ RowOf W (w.heap.size + 2) 83 11 RV.cells A c s.rules) y W := (hd 3 rfl).ex rfl
      have x7 : (fun (y : Nat → Value) (W : World) => ∃ A c, y 12 = .slice A s.links.length c ∧ RowOf W (w.heap.size + 2) 94 2 KV.cells A c s.links) y W := (hd 7 rfl).ex rfl
      have x11 : (fun (y : Nat → Value) (W : World) => ∃ A c, y 16 = .slice A s.shifts.length c ∧ RowOf W (w.heap.size + 2) 9 1 (fun b : ByteArray => [Value.string b]) A c s.shifts) y W := (hd 11 rfl).ex rfl
      clear hd
      obtain ⟨A1, c1, h1, h4⟩ := x3
      obtain ⟨A2, c2, h2, h5⟩ := x7
      obtain ⟨A3, c3, h3, h6⟩ := x11
      go_simp
      exact hK.out _ _ _ (by first | rfl | (simp only [h1, h2, h3]; done) | (simp only [h1, h2, h3]; rfl)) (GS.refl _) hS (show ∃ A1 c1 A2 c2 A3 c3, _ = Value.agg #[.slice A1 s.rules.length c1, .slice none 0 0, .slice A2 s.links.length c2, .slice A3 s.shifts.length c3] ∧ RowOf _ (w.heap.size + 2) 83 11 RV.cells A1 c1 s.rules ∧ RowOf _ (w.heap.size + 2) 94 2 KV.cells A2 c2 s.links ∧ RowOf _ (w.heap.size + 2) 9 1 (fun b : ByteArray => [Value.string b]) A3 c3 s.shifts from ⟨A1, c1, A2, c2, A3, c3, rfl, h4, h5, h6⟩)
    refine StepsOk.cons (StepOk.other rfl fun y W hS hd K' hK => ?_) ?_
    · skip
      clear hd
      obtain ⟨hb, hx, hr⟩ := hS
      have hle := hr.lt
      go_simp
      exact hK.out _ _ _ rfl (GS.alloc W _) ⟨hb.alloc hb.size _, hx.alloc _, hr.alloc _⟩ (show ∃ g, (_ = Value.pointer (some ⟨g, 0, none⟩) ∧ w.heap.size + 2 ≤ g) ∧ ∃ a b c d, Blk _ g 32 #[a, b, c, d] from ⟨W.heap.size, ⟨rfl, by omega⟩, _, _, _, _, Blk.new W 32 #[.slice none 0 0, .slice none 0 0, .slice none 0 0, .slice none 0 0]⟩)
    refine StepsOk.cons (StepOk.other rfl fun y W hS hd K' hK => ?_) ?_
    · skip
      have x12 : (fun (y : Nat → Value) (W : World) => ∃ A1 c1 A2 c2 A3 c3, y 17 = .agg #[.slice A1 s.rules.length c1, .slice none 0 0, .slice A2 s.links.length c2, .slice A3 s.shifts.length c3] ∧ RowOf W (w.heap.size + 2) 83 11 RV.cells A1 c1 s.rules ∧ RowOf W (w.heap.size + 2) 94 2 KV.cells A2 c2 s.links ∧ RowOf W (w.heap.size + 2) 9 1 (fun b : ByteArray => [Value.string b]) A3 c3 s.shifts) y W := (hd 12 rfl).ex rfl
      have x13 : (fun (y : Nat → Value) (W : World) => ∃ g, (y 3 = .pointer (some ⟨g, 0, none⟩) ∧ w.heap.size + 2 ≤ g) ∧ ∃ a b c d, Blk W g 32 #[a, b, c, d]) y W := (hd 13 rfl).ex rfl
      clear hd
      obtain ⟨g, ⟨h1, h2⟩, a, b, c, d, hr0⟩ := x13
      obtain ⟨A1, c1, A2, c2, A3, c3, h3, h4, h5, h6⟩ := x12
      have k0 := (hr0.cell 0).trans rfl
      have k1 := (hr0.cell 1).trans rfl
      have k2 := (hr0.cell 2).trans rfl
      have k3 := (hr0.cell 3).trans rfl
      have f0 := hr0.frozen 0
      have f1 := hr0.frozen 1
      have f2 := hr0.frozen 2
      have f3 := hr0.frozen 3
      have q4 := GS.set4 hr0 (.slice A1 s.rules.length c1) (.slice none 0 0) (.slice A2 s.links.length c2) (.slice A3 s.shifts.length c3)
      obtain ⟨hb, hx, hr⟩ := hS
      have hb2 := below_set4 hb (show w.heap.size ≤ g by omega) (.slice A1 s.rules.length c1) (.slice none 0 0) (.slice A2 s.links.length c2) (.slice A3 s.shifts.length c3)
      have hx2 := (((hx.far (p := ⟨g, 0, none⟩) (by show _ ≠ g; omega) (.slice A1 s.rules.length c1)).far (p := ⟨g, 1, none⟩) (by show _ ≠ g; omega) (.slice none 0 0)).far (p := ⟨g, 2, none⟩) (by show _ ≠ g; omega) (.slice A2 s.links.length c2)).far (p := ⟨g, 3, none⟩) (by show _ ≠ g; omega) (.slice A3 s.shifts.length c3)
      have hr2 := (((hr.far (p := ⟨g, 0, none⟩) (by show _ ≠ g; omega) (.slice A1 s.rules.length c1)).far (p := ⟨g, 1, none⟩) (by show _ ≠ g; omega) (.slice none 0 0)).far (p := ⟨g, 2, none⟩) (by show _ ≠ g; omega) (.slice A2 s.links.length c2)).far (p := ⟨g, 3, none⟩) (by show _ ≠ g; omega) (.slice A3 s.shifts.length c3)
      have HH := Lib.hid (And.intro q4.2 (And.intro q4.1 (And.intro hb2 (And.intro hx2 (And.intro hr2 (And.intro (q4.1.row (by decide) h4) (And.intro (q4.1.row (by decide) h5) (q4.1.row (by decide) h6))))))))
      clear q4 hb2 hb hx2 h4 h5 h6
      go_simp
      exact hK.out undef _ _ (by first | rfl | (simp only [h1, h3]; done) | (simp only [h1, h3]; rfl)) HH.out.2.1 ⟨HH.out.2.2.1, HH.out.2.2.2.1, HH.out.2.2.2.2.1⟩ (show ∃ g A1 c1 A2 c2 A3 c3, (y 3 = Value.pointer (some ⟨g, 0, none⟩) ∧ w.heap.size + 2 ≤ g) ∧ Blk _ g 32 #[.slice A1 s.rules.length c1, .slice none 0 0, .slice A2 s.links.length c2, .slice A3 s.shifts.length c3] ∧ RowOf _ (w.heap.size + 2) 83 11 RV.cells A1 c1 s.rules ∧ RowOf _ (w.heap.size + 2) 94 2 KV.cells A2 c2 s.links ∧ RowOf _ (w.heap.size + 2) 9 1 (fun b : ByteArray => [Value.string b]) A3 c3 s.shifts from ⟨g, A1, c1, A2, c2, A3, c3, ⟨h1, h2⟩, HH.out.1, HH.out.2.2.2.2.2⟩)
    exact StepsOk.nil

end Go.Proofs.YtlideagcmhlkeaaDoor

/- The walk of Same (the reference of chapter 14). -/
namespace Go.Proofs.YtlideagcmhlkeaaDoor
open Go.RowKit Go.Lib
set_option linter.unusedVariables false
set_option linter.unusedSimpArgs false
attribute [local go_sem high] neq_era neq_rule neq_link

/-- the boxes of Same -/
structure Box14 (w W : World) (a b : SV) : Prop where
  one : Blk W w.heap.size 32 #[.slice a.rA a.rules.length a.rc, .slice a.zA a.zones.length a.zc, .slice a.kA a.links.length a.kc, .slice a.hA a.shifts.length a.hc]
  two : Blk W (w.heap.size + 1) 32 #[.slice b.rA b.rules.length b.rc, .slice b.zA b.zones.length b.zc, .slice b.kA b.links.length b.kc, .slice b.hA b.shifts.length b.hc]
  bel : Below w.heap.size w W
theorem Box14.below {w W W' : World} {a b : SV} (h : Box14 w W a b) (hb : Below W.heap.size W W') : Box14 w W' a b := ⟨h.one.below hb h.one.lt, h.two.below hb h.two.lt, h.bel.trans (hb.mono h.bel.size)⟩
theorem box14_new (w : World) (a b : SV) : Box14 w ((w.alloc (.cells #[.slice a.rA a.rules.length a.rc, .slice a.zA a.zones.length a.zc, .slice a.kA a.links.length a.kc, .slice a.hA a.shifts.length a.hc] 32)).alloc (.cells #[.slice b.rA b.rules.length b.rc, .slice b.zA b.zones.length b.zc, .slice b.kA b.links.length b.kc, .slice b.hA b.shifts.length b.hc] 32)) a b :=
  ⟨(Blk.new w _ _).alloc _, Blk.newAt _ (w.heap.size + 1) (by simp) _ _, ((Below.refl _ w).alloc (Nat.le_refl _) _).alloc (by simp) _⟩
def big14 (s : SV) : Prop := s.rules.length ≤ 1000 ∧ s.zones.length ≤ 1000 ∧ s.links.length ≤ 1000 ∧ s.shifts.length ≤ 1000 ∧ ∀ z ∈ s.zones, z.eras.length ≤ 1000
set_option maxRecDepth 100000 in
set_option maxHeartbeats 8000000 in
theorem same14_any (a b : SV) (w : World) (hA : SrcIn w a) (hB : SrcIn w b) (hf : big14 a) :
    Calls Tryd.prog 22 #[.agg #[.slice a.rA a.rules.length a.rc, .slice a.zA a.zones.length a.zc, .slice a.kA a.links.length a.kc, .slice a.hA a.shifts.length a.hc], .agg #[.slice b.rA b.rules.length b.rc, .slice b.zA b.zones.length b.zc, .slice b.kA b.links.length b.kc, .slice b.hA b.shifts.length b.hc]] w fun e W => ∃ R : Bool, (R = true ↔ sSame14 a b) ∧ e = .returned (.bool R) ∧ Below w.heap.size w W := by
  have HA := Lib.hid hA; have HB := Lib.hid hB; have HF := Lib.hid hf
  have HX := Lib.hid (box14_new w a b)
  have c0 := (HX.out.one.cell 0).trans rfl
  have c1 := (HX.out.one.cell 1).trans rfl
  have c2 := (HX.out.one.cell 2).trans rfl
  have c3 := (HX.out.one.cell 3).trans rfl
  have d0 := (HX.out.two.cell 0).trans rfl
  have d1 := (HX.out.two.cell 1).trans rfl
  have d2 := (HX.out.two.cell 2).trans rfl
  have d3 := (HX.out.two.cell 3).trans rfl
  clear hA hB hf
  by_cases lrules : a.rules.length = b.rules.length
  rotate_left
  · have hbn : ((a.rules.length : Int) != (b.rules.length : Int)) = true := by rw [bne_iff_ne]; omega
    have HN := Lib.hid (show ¬ sSame14 a b from fun q => lrules (congrArg List.length q.rules))
    clear lrules
    go_enter Tryd.func22, Tryd.ntmps22
    go_wp2_with fail
    go_ret
    exact ⟨false, ⟨fun h => (by cases h), fun h => absurd h HN.out⟩, rfl, HX.out.bel⟩
  have brules : ((a.rules.length : Int) != (b.rules.length : Int)) = false := by rw [bne_eq_false_iff_eq]; omega
  have Lrules := Lib.hid lrules
  clear lrules
  by_cases llinks : a.links.length = b.links.length
  rotate_left
  · have hbn : ((a.links.length : Int) != (b.links.length : Int)) = true := by rw [bne_iff_ne]; omega
    have HN := Lib.hid (show ¬ sSame14 a b from fun q => llinks (congrArg List.length q.links))
    clear llinks
    go_enter Tryd.func22, Tryd.ntmps22
    go_wp2_with fail
    go_ret
    exact ⟨false, ⟨fun h => (by cases h), fun h => absurd h HN.out⟩, rfl, HX.out.bel⟩
  have blinks : ((a.links.length : Int) != (b.links.length : Int)) = false := by rw [bne_eq_false_iff_eq]; omega
  have Llinks := Lib.hid llinks
  clear llinks
  by_cases lshifts : a.shifts.length = b.shifts.length
  rotate_left
  · have hbn : ((a.shifts.length : Int) != (b.shifts.length : Int)) = true := by rw [bne_iff_ne]; omega
    have HN := Lib.hid (show ¬ sSame14 a b from fun q => lshifts (congrArg List.length q.shifts))
    clear lshifts
    go_enter Tryd.func22, Tryd.ntmps22
    go_wp2_with fail
    go_ret
    exact ⟨false, ⟨fun h => (by cases h), fun h => absurd h HN.out⟩, rfl, HX.out.bel⟩
  have bshifts : ((a.shifts.length : Int) != (b.shifts.length : Int)) = false := by rw [bne_eq_false_iff_eq]; omega
  have Lshifts := Lib.hid lshifts
  clear lshifts
  have cZ := Lib.hid (fun W (h : Below w.heap.size w W) => zones14_any a.zones b.zones a.zA b.zA a.zc b.zc W (HA.out.zones.below h) (HB.out.zones.below h) (fun z hz => (HA.out.eras z hz).below h) (fun z hz => (HB.out.eras z hz).below h) HF.out.2.1 HF.out.2.2.2.2)
  go_enter Tryd.func22, Tryd.ntmps22
  go_wp2_with fail
  refine (cZ.out _ HX.out.bel).mono ?_
  rintro e W ⟨R, hR, rfl, hc⟩
  have HX2 := Lib.hid (HX.out.below hc)
  have HR := Lib.hid hR
  clear hc hR cZ HX c0 c1 c2 c3 d0 d1 d2 d3
  cases R with
  | false =>
    go_wp2_with fail
    go_ret
    exact ⟨false, ⟨fun h => (by cases h), fun h => absurd (HR.out.2 h.zones) (by simp)⟩, rfl, HX2.out.bel⟩
  | true =>
    have HZ := Lib.hid (HR.out.1 rfl)
    clear HR
    have HX3 := Lib.hid HX2.out
    have wr0 : True := trivial
    have hl0 : (a.rules.length : Int) ≤ 1000 := by have := HF.out.1; omega
    have hl1 : (a.links.length : Int) ≤ 1000 := by have := HF.out.2.2.1; omega
    have hl2 : (a.shifts.length : Int) ≤ 1000 := by have := HF.out.2.2.2.1; omega
    clear HX2
    have c0 := (HX3.out.one.cell 0).trans rfl
    have d0 := (HX3.out.two.cell 0).trans rfl
    go_wp2_with fail
    clear c0 d0
    go_loopw [5] (fun i W' => ∃ k : Nat, k ≤ a.rules.length ∧ i = .int .i64 k ∧ Box14 w W' a b ∧ Hid (eTo14 a.rules b.rules k)) (fun i _ => a.rules.length - (intOf i).toNat)
    case atStart => exact ⟨0, Nat.zero_le _, rfl, HX3.out, Lib.hid (fun i h => by omega)⟩
    case round =>
      clear HX3
      obtain ⟨k, hk, rfl, hbx, hte⟩ := hrel
      have HBX := Lib.hid hbx
      have c0 := (hbx.one.cell 0).trans rfl
      have d0 := (hbx.two.cell 0).trans rfl
      clear hbx
      by_cases hlt : k < a.rules.length
      · obtain ⟨x, hx⟩ : ∃ x, a.rules[k]? = some x := ⟨_, List.getElem?_eq_getElem hlt⟩
        obtain ⟨u, hu⟩ : ∃ u, b.rules[k]? = some u := ⟨_, List.getElem?_eq_getElem (by have := Lrules.out; omega)⟩
        obtain ⟨gx, ox, hxA, hgx, xt⟩ := (HA.out.rules.below HBX.out.bel) k x hx
        obtain ⟨gu, ou, huA, hgu, ut⟩ := (HB.out.rules.below HBX.out.bel) k u hu
        rw [hxA] at c0
        rw [huA] at d0
        clear hxA huA
        have x0 : wr.cell? ⟨gx, ox + k * 11, none⟩ = some (.string x.name) := xt 0 _ rfl
        have x1 : wr.cell? ⟨gx, ox + k * 11 + 1, none⟩ = some (.int .i64 x.frm) := xt 1 _ rfl
        have x2 : wr.cell? ⟨gx, ox + k * 11 + 2, none⟩ = some (.int .i64 x.til) := xt 2 _ rfl
        have x3 : wr.cell? ⟨gx, ox + k * 11 + 3, none⟩ = some (.int .i64 x.month) := xt 3 _ rfl
        have x4 : wr.cell? ⟨gx, ox + k * 11 + 4, none⟩ = some (.int .i64 x.dk) := xt 4 _ rfl
        have x5 : wr.cell? ⟨gx, ox + k * 11 + 5, none⟩ = some (.int .i64 x.dw) := xt 5 _ rfl
        have x6 : wr.cell? ⟨gx, ox + k * 11 + 6, none⟩ = some (.int .i64 x.dd) := xt 6 _ rfl
        have x7 : wr.cell? ⟨gx, ox + k * 11 + 7, none⟩ = some (.int .i64 x.asec) := xt 7 _ rfl
        have x8 : wr.cell? ⟨gx, ox + k * 11 + 8, none⟩ = some (.int .i64 x.abase) := xt 8 _ rfl
        have x9 : wr.cell? ⟨gx, ox + k * 11 + 9, none⟩ = some (.int .i64 x.save) := xt 9 _ rfl
        have x10 : wr.cell? ⟨gx, ox + k * 11 + 10, none⟩ = some (.string x.letter) := xt 10 _ rfl
        have u0 : wr.cell? ⟨gu, ou + k * 11, none⟩ = some (.string u.name) := ut 0 _ rfl
        have u1 : wr.cell? ⟨gu, ou + k * 11 + 1, none⟩ = some (.int .i64 u.frm) := ut 1 _ rfl
        have u2 : wr.cell? ⟨gu, ou + k * 11 + 2, none⟩ = some (.int .i64 u.til) := ut 2 _ rfl
        have u3 : wr.cell? ⟨gu, ou + k * 11 + 3, none⟩ = some (.int .i64 u.month) := ut 3 _ rfl
        have u4 : wr.cell? ⟨gu, ou + k * 11 + 4, none⟩ = some (.int .i64 u.dk) := ut 4 _ rfl
        have u5 : wr.cell? ⟨gu, ou + k * 11 + 5, none⟩ = some (.int .i64 u.dw) := ut 5 _ rfl
        have u6 : wr.cell? ⟨gu, ou + k * 11 + 6, none⟩ = some (.int .i64 u.dd) := ut 6 _ rfl
        have u7 : wr.cell? ⟨gu, ou + k * 11 + 7, none⟩ = some (.int .i64 u.asec) := ut 7 _ rfl
        have u8 : wr.cell? ⟨gu, ou + k * 11 + 8, none⟩ = some (.int .i64 u.abase) := ut 8 _ rfl
        have u9 : wr.cell? ⟨gu, ou + k * 11 + 9, none⟩ = some (.int .i64 u.save) := ut 9 _ rfl
        have u10 : wr.cell? ⟨gu, ou + k * 11 + 10, none⟩ = some (.string u.letter) := ut 10 _ rfl
        have hki : (k : Int) < (a.rules.length : Int) := by omega
        have hkj : (k : Int) < (b.rules.length : Int) := by have := Lrules.out; omega
        have HXX := Lib.hid hx; have HUU := Lib.hid hu; have HLT := Lib.hid hlt
        clear xt ut hx hu
        by_cases hq : x = u
        · have hd : decide (x.name = u.name ∧ x.frm = u.frm ∧ x.til = u.til ∧ x.month = u.month ∧ x.dk = u.dk ∧ x.dw = u.dw ∧ x.dd = u.dd ∧ x.asec = u.asec ∧ x.abase = u.abase ∧ x.save = u.save ∧ x.letter = u.letter) = true := by rw [decide_eq_true_eq]; exact (rv_eq x u).1 hq
          have HTE := Lib.hid (eTo14.succ hte.out (HXX.out.trans (by rw [HUU.out, hq])))
          clear hq hte
          go_wp2_with fail
          go_quiet (fail)
          all_goals
            go_wp2_with fail
            go_roundw
            case rel => first | exact ⟨k + 1, by omega, by go_num, HBX.out.below (below_drewN (Below.refl _ _) _), HTE⟩ | ((repeat apply Exists.intro); refine ⟨?_, rfl⟩; exact ⟨k + 1, by omega, by go_num, HBX.out.below (below_drewN (Below.refl _ _) _), HTE⟩)
            case measure => simp [intOf]; omega
        · have hd : decide (x.name = u.name ∧ x.frm = u.frm ∧ x.til = u.til ∧ x.month = u.month ∧ x.dk = u.dk ∧ x.dw = u.dw ∧ x.dd = u.dd ∧ x.asec = u.asec ∧ x.abase = u.abase ∧ x.save = u.save ∧ x.letter = u.letter) = false := by rw [decide_eq_false_iff_not]; exact fun q => hq ((rv_eq x u).2 q)
          have HN := Lib.hid (show ¬ sSame14 a b from fun q => hq (by
            have h1 := HXX.out
            rw [q.rules, HUU.out] at h1
            injection h1 with h1
            exact h1.symm))
          clear hq hte
          go_wp2_with fail
          go_quiet (fail)
          all_goals
            go_wp2_with fail
            go_ret
            exact ⟨false, ⟨fun h => (by cases h), fun h => absurd h HN.out⟩, rfl, below_drewN HBX.out.bel _⟩
      · obtain rfl : k = a.rules.length := by omega
        have Drules := Lib.hid (hte.out.all Lrules.out)
        clear hte
        have e0 := (HBX.out.one.cell 2).trans rfl
        have f0 := (HBX.out.two.cell 2).trans rfl
        go_wp2_with fail
        clear c0 d0 e0 f0
        have HY0 := Lib.hid HBX.out
        clear HBX
        go_loopw [6] (fun i W' => ∃ k : Nat, k ≤ a.links.length ∧ i = .int .i64 k ∧ Box14 w W' a b ∧ Hid (eTo14 a.links b.links k)) (fun i _ => a.links.length - (intOf i).toNat)
        case atStart => exact ⟨0, Nat.zero_le _, rfl, HY0.out, Lib.hid (fun i h => by omega)⟩
        case round =>
          clear HY0
          obtain ⟨k, hk, rfl, hbx, hte⟩ := hrel
          have HBX := Lib.hid hbx
          have c0 := (hbx.one.cell 2).trans rfl
          have d0 := (hbx.two.cell 2).trans rfl
          clear hbx
          by_cases hlt : k < a.links.length
          · obtain ⟨x, hx⟩ : ∃ x, a.links[k]? = some x := ⟨_, List.getElem?_eq_getElem hlt⟩
            obtain ⟨u, hu⟩ : ∃ u, b.links[k]? = some u := ⟨_, List.getElem?_eq_getElem (by have := Llinks.out; omega)⟩
            obtain ⟨gx, ox, hxA, hgx, xt⟩ := (HA.out.links.below HBX.out.bel) k x hx
            obtain ⟨gu, ou, huA, hgu, ut⟩ := (HB.out.links.below HBX.out.bel) k u hu
            rw [hxA] at c0
            rw [huA] at d0
            clear hxA huA
            have x0 : wr.cell? ⟨gx, ox + k * 2, none⟩ = some (.string x.target) := xt 0 _ rfl
            have x1 : wr.cell? ⟨gx, ox + k * 2 + 1, none⟩ = some (.string x.name) := xt 1 _ rfl
            have u0 : wr.cell? ⟨gu, ou + k * 2, none⟩ = some (.string u.target) := ut 0 _ rfl
            have u1 : wr.cell? ⟨gu, ou + k * 2 + 1, none⟩ = some (.string u.name) := ut 1 _ rfl
            have hki : (k : Int) < (a.links.length : Int) := by omega
            have hkj : (k : Int) < (b.links.length : Int) := by have := Llinks.out; omega
            have HXX := Lib.hid hx; have HUU := Lib.hid hu; have HLT := Lib.hid hlt
            clear xt ut hx hu
            by_cases hq : x = u
            · have hd : decide (x.target = u.target ∧ x.name = u.name) = true := by rw [decide_eq_true_eq]; exact (kv_eq x u).1 hq
              have HTE := Lib.hid (eTo14.succ hte.out (HXX.out.trans (by rw [HUU.out, hq])))
              clear hq hte
              go_wp2_with fail
              go_quiet (fail)
              all_goals
                go_wp2_with fail
                go_roundw
                case rel => first | exact ⟨k + 1, by omega, by go_num, HBX.out.below (below_drewN (Below.refl _ _) _), HTE⟩ | ((repeat apply Exists.intro); refine ⟨?_, rfl⟩; exact ⟨k + 1, by omega, by go_num, HBX.out.below (below_drewN (Below.refl _ _) _), HTE⟩)
                case measure => simp [intOf]; omega
            · have hd : decide (x.target = u.target ∧ x.name = u.name) = false := by rw [decide_eq_false_iff_not]; exact fun q => hq ((kv_eq x u).2 q)
              have HN := Lib.hid (show ¬ sSame14 a b from fun q => hq (by
                have h1 := HXX.out
                rw [q.links, HUU.out] at h1
                injection h1 with h1
                exact h1.symm))
              clear hq hte
              go_wp2_with fail
              go_quiet (fail)
              all_goals
                go_wp2_with fail
                go_ret
                exact ⟨false, ⟨fun h => (by cases h), fun h => absurd h HN.out⟩, rfl, below_drewN HBX.out.bel _⟩
          · obtain rfl : k = a.links.length := by omega
            have Dlinks := Lib.hid (hte.out.all Llinks.out)
            clear hte
            have e0 := (HBX.out.one.cell 3).trans rfl
            have f0 := (HBX.out.two.cell 3).trans rfl
            go_wp2_with fail
            clear c0 d0 e0 f0
            have HY1 := Lib.hid HBX.out
            clear HBX
            go_loopw [7] (fun i W' => ∃ k : Nat, k ≤ a.shifts.length ∧ i = .int .i64 k ∧ Box14 w W' a b ∧ Hid (eTo14 a.shifts b.shifts k)) (fun i _ => a.shifts.length - (intOf i).toNat)
            case atStart => exact ⟨0, Nat.zero_le _, rfl, HY1.out, Lib.hid (fun i h => by omega)⟩
            case round =>
              clear HY1
              obtain ⟨k, hk, rfl, hbx, hte⟩ := hrel
              have HBX := Lib.hid hbx
              have c0 := (hbx.one.cell 3).trans rfl
              have d0 := (hbx.two.cell 3).trans rfl
              clear hbx
              by_cases hlt : k < a.shifts.length
              · obtain ⟨x, hx⟩ : ∃ x, a.shifts[k]? = some x := ⟨_, List.getElem?_eq_getElem hlt⟩
                obtain ⟨u, hu⟩ : ∃ u, b.shifts[k]? = some u := ⟨_, List.getElem?_eq_getElem (by have := Lshifts.out; omega)⟩
                obtain ⟨gx, ox, hxA, hgx, xt⟩ := (HA.out.shifts.below HBX.out.bel) k x hx
                obtain ⟨gu, ou, huA, hgu, ut⟩ := (HB.out.shifts.below HBX.out.bel) k u hu
                rw [hxA] at c0
                rw [huA] at d0
                clear hxA huA
                have x0 : wr.cell? ⟨gx, ox + k, none⟩ = some (.string x) := (by have q := xt 0 _ rfl; simpa using q)
                have u0 : wr.cell? ⟨gu, ou + k, none⟩ = some (.string u) := (by have q := ut 0 _ rfl; simpa using q)
                have hki : (k : Int) < (a.shifts.length : Int) := by omega
                have hkj : (k : Int) < (b.shifts.length : Int) := by have := Lshifts.out; omega
                have HXX := Lib.hid hx; have HUU := Lib.hid hu; have HLT := Lib.hid hlt
                clear xt ut hx hu
                by_cases hq : x = u
                · have hd : (x.toList == u.toList) = true := by rw [hq]; simp
                  have HTE := Lib.hid (eTo14.succ hte.out (HXX.out.trans (by rw [HUU.out, hq])))
                  clear hq hte
                  go_wp2_with fail
                  go_quiet (fail)
                  all_goals
                    go_wp2_with fail
                    go_roundw
                    case rel => first | exact ⟨k + 1, by omega, by go_num, HBX.out.below (below_drewN (Below.refl _ _) _), HTE⟩ | ((repeat apply Exists.intro); refine ⟨?_, rfl⟩; exact ⟨k + 1, by omega, by go_num, HBX.out.below (below_drewN (Below.refl _ _) _), HTE⟩)
                    case measure => simp [intOf]; omega
                · have hd : (x.toList == u.toList) = false := eq_b _ _ hq
                  have HN := Lib.hid (show ¬ sSame14 a b from fun q => hq (by
                    have h1 := HXX.out
                    rw [q.shifts, HUU.out] at h1
                    injection h1 with h1
                    exact h1.symm))
                  clear hq hte
                  go_wp2_with fail
                  go_quiet (fail)
                  all_goals
                    go_wp2_with fail
                    go_ret
                    exact ⟨false, ⟨fun h => (by cases h), fun h => absurd h HN.out⟩, rfl, below_drewN HBX.out.bel _⟩
              · obtain rfl : k = a.shifts.length := by omega
                have Dshifts := Lib.hid (hte.out.all Lshifts.out)
                clear hte
                go_wp2_with fail
                go_ret
                exact ⟨true, ⟨fun _ => ⟨Drules.out, Dlinks.out, Dshifts.out, HZ.out⟩, fun _ => rfl⟩, rfl, HBX.out.bel⟩
end Go.Proofs.YtlideagcmhlkeaaDoor

/- The walk of turns (chapter 30): a function makes another FORMAT of the one era of a source, or fails. -/
namespace Go.Proofs.YtlideagcmhlkeaaDoor
open Go.RowKit Go.Lib
set_option linter.unusedVariables false
set_option linter.unusedSimpArgs false

theorem ErrIs.one {F : EV → ByteArray × Int} {Z : List ZV} {nm : ByteArray} {eA : Option Addr} {ec : Nat} {e : EV} (h : Z = [⟨nm, eA, ec, [e]⟩]) : ErrIs F Z (F e).2 := by
  subst h
  by_cases h0 : (F e).2 = 0
  · rw [h0]
    refine ErrIs.ok (i := 1) (fun a b z x hz hx hp => ?_) (by simp)
    have ha : a = 0 := by have := (List.getElem?_eq_some_iff.1 hz).1; simp at this; omega
    subst ha
    rw [List.getElem?_cons_zero] at hz
    injection hz with hz
    subst hz
    have hb : b = 0 := by have := (List.getElem?_eq_some_iff.1 hx).1; simp at this; omega
    subst hb
    injection hx with hx
    subst hx
    exact h0
  · exact ErrIs.bad (okTo30.zero _ _) (i := 0) (k := 0) (z := ⟨nm, eA, ec, [e]⟩) rfl rfl h0
theorem same_lens {t s : SV} (h : sSame14 t s) : t.rules.length = s.rules.length ∧ t.zones.length = s.zones.length ∧ t.links.length = s.links.length ∧ t.shifts.length = s.shifts.length := ⟨by rw [h.rules], h.zones.1, by rw [h.links], by rw [h.shifts]⟩
theorem same_eras {t s : SV} (h : sSame14 t s) : ∀ z ∈ t.zones, ∃ y ∈ s.zones, z.name = y.name ∧ z.eras = y.eras := fun z hz => by
  obtain ⟨i, hi⟩ := List.mem_iff_getElem?.1 hz
  have hl := (List.getElem?_eq_some_iff.1 hi).1
  obtain ⟨y, hy⟩ : ∃ y, s.zones[i]? = some y := ⟨_, List.getElem?_eq_getElem (by rw [← h.zones.1]; exact hl)⟩
  exact ⟨y, List.mem_of_getElem? hy, h.zones.2 i z y hl hi hy⟩
theorem big_of {s t : SV} (hf : Few30 s) (hl : t.rules.length = s.rules.length ∧ t.zones.length = s.zones.length ∧ t.links.length = s.links.length ∧ t.shifts.length = s.shifts.length) (he : ∀ z ∈ t.zones, ∃ y ∈ s.zones, z.eras.length = y.eras.length) : big14 t := by
  have h := hf.lens
  refine ⟨by omega, by omega, by omega, by omega, fun z hz => ?_⟩
  obtain ⟨y, hy, hq⟩ := he z hz
  have := hf.eras y hy
  omega
theorem big_map {s t : SV} {G : EV → EV} (hf : Few30 s) (h : sSame14 t (mapS G s)) : big14 t := big_of hf (by have := same_lens h; simpa [mapS] using this) fun z hz => by
  obtain ⟨y, hy, _, he⟩ := same_eras h z hz
  obtain ⟨x, hx, rfl⟩ := List.mem_map.1 (show y ∈ s.zones.map (mapE G) from hy)
  exact ⟨x, hx, by rw [he]; simp [mapE]⟩
theorem big_nil {t : SV} (h : sSame14 t nilS) : big14 t := by
  have hl := same_lens h
  refine ⟨by rw [hl.1]; decide, by rw [hl.2.1]; decide, by rw [hl.2.2.1]; decide, by rw [hl.2.2.2]; decide, fun z hz => ?_⟩
  obtain ⟨y, hy, _⟩ := same_eras h z hz
  cases hy
theorem Res30.one {F : EV → ByteArray × Int} {s t : SV} {m : Int} {nm : ByteArray} {eA : Option Addr} {ec : Nat} {e : EV} (h : Res30 F s t m) (hz : s.zones = [⟨nm, eA, ec, [e]⟩]) : m = (F e).2 := h.err.uniq (ErrIs.one hz)
/-- the answer is the source with its one FORMAT written into a copy -/
theorem turn_same {F : EV → ByteArray × Int} {s t c : SV} {nm : ByteArray} {eA : Option Addr} {ec : Nat} {e : EV} {z : ZV} (ht : sSame14 t (mapS (fmtE F) s)) (hz : s.zones = [⟨nm, eA, ec, [e]⟩]) (hc : sSame14 c s) (hcz : c.zones[0]? = some z) : sSame14 t (c.setEra 0 z 0 (fmtE F e)) := by
  have hzs : z.name = nm ∧ z.eras = [e] := by
    obtain ⟨y, hy, h1, h2⟩ := same_eras hc z (List.mem_of_getElem? hcz)
    rw [hz] at hy
    obtain rfl := List.mem_singleton.1 hy
    exact ⟨h1, h2⟩
  have hcl : c.zones.length = 1 := by rw [hc.zones.1, hz]; rfl
  refine ⟨ht.rules.trans hc.rules.symm, ht.links.trans hc.links.symm, ht.shifts.trans hc.shifts.symm, by
    show t.zones.length = (c.zones.set 0 _).length
    rw [List.length_set, hcl, ht.zones.1]
    show (s.zones.map _).length = 1
    rw [List.length_map, hz]; rfl, fun i x y hi hx hy => ?_⟩
  have hl : t.zones.length = 1 := by rw [ht.zones.1]; show (s.zones.map _).length = 1; rw [List.length_map, hz]; rfl
  have hi0 : i = 0 := by omega
  subst hi0
  have hq := ht.zones.2 0 x (mapE (fmtE F) ⟨nm, eA, ec, [e]⟩) hi hx (by show (s.zones.map _)[0]? = _; rw [hz]; rfl)
  have hy' : (c.zones.set 0 { z with eras := z.eras.set 0 (fmtE F e) })[0]? = some y := hy
  rw [List.getElem?_set_self (by omega)] at hy'
  injection hy' with hy'
  subst hy'
  refine ⟨hq.1.trans hzs.1.symm, hq.2.trans ?_⟩
  show [e].map (fmtE F) = z.eras.set 0 (fmtE F e)
  rw [hzs.2]
  rfl
set_option maxRecDepth 100000 in
set_option maxHeartbeats 8000000 in
theorem turns_any (fn : FuncId) (F : EV → ByteArray × Int) (s : SV) (want : ByteArray) (n : Int) (nm : ByteArray) (eA : Option Addr) (ec : Nat) (e : EV) (w : World) (hS : SrcG w s) (hf : Few30 s) (hz : s.zones = [⟨nm, eA, ec, [e]⟩])
    (hent : ∀ args W, (callFunc fn args).run Tryd.prog W = .ok (.enter fn args) W)
    (hF : ∀ W, Below w.heap.size w W → Calls Tryd.prog fn #[.agg #[.slice s.rA s.rules.length s.rc, .slice s.zA s.zones.length s.zc, .slice s.kA s.links.length s.kc, .slice s.hA s.shifts.length s.hc]] W fun x W' => ∃ (t : SV) (m : Int), x = .returned (.tuple #[.agg #[.slice t.rA t.rules.length t.rc, .slice t.zA t.zones.length t.zc, .slice t.kA t.links.length t.kc, .slice t.hA t.shifts.length t.hc], .int .i64 m]) ∧ SrcG W' t ∧ Res30 F s t m ∧ Below W.heap.size W W')
    (hn : (F e).2 = n) (hw : n = 0 → (F e).1 = want) :
    Calls Tryd.prog 27 #[.func (.func fn) #[] #[], .agg #[.slice s.rA s.rules.length s.rc, .slice s.zA s.zones.length s.zc, .slice s.kA s.links.length s.kc, .slice s.hA s.shifts.length s.hc], .string want, .int .i64 n] w fun x w' => x = .returned (.bool true) ∧ Below w.heap.size w w' := by
  have HS := Lib.hid hS; have HF := Lib.hid hF; have HFW := Lib.hid hf; have HZ := Lib.hid hz; have HN := Lib.hid hn; have HW := Lib.hid hw
  have hb0 := (Below.refl w.heap.size w).alloc (Nat.le_refl _) (.cells #[.slice s.rA s.rules.length s.rc, .slice s.zA s.zones.length s.zc, .slice s.kA s.links.length s.kc, .slice s.hA s.shifts.length s.hc] 32)
  have hx0 := Blk.new w 32 #[.slice s.rA s.rules.length s.rc, .slice s.zA s.zones.length s.zc, .slice s.kA s.links.length s.kc, .slice s.hA s.shifts.length s.hc]
  have HB0 := Lib.hid hb0; have HX0 := Lib.hid hx0
  have c0 := (hx0.cell 0).trans rfl
  have c1 := (hx0.cell 1).trans rfl
  have c2 := (hx0.cell 2).trans rfl
  have c3 := (hx0.cell 3).trans rfl
  clear hS hF hf hz hn hw hb0 hx0
  go_enter Tryd.func27, Tryd.ntmps27
  go_wp2_with fail
  refine (HF.out _ HB0.out).mono ?_
  rintro x W2 ⟨t, m, rfl, hT, hR, hc⟩
  obtain rfl : m = n := (hR.one HZ.out).trans HN.out
  clear c0 c1 c2 c3
  have hx2 := (HX0.out.below hc HX0.out.lt).alloc (.cells #[.slice t.rA t.rules.length t.rc, .slice t.zA t.zones.length t.zc, .slice t.kA t.links.length t.kc, .slice t.hA t.shifts.length t.hc] 32)
  have hb2 := (HB0.out.trans (hc.mono HB0.out.size)).alloc (HB0.out.trans (hc.mono HB0.out.size)).size (.cells #[.slice t.rA t.rules.length t.rc, .slice t.zA t.zones.length t.zc, .slice t.kA t.links.length t.kc, .slice t.hA t.shifts.length t.hc] 32)
  have hy2 := Blk.new W2 32 #[.slice t.rA t.rules.length t.rc, .slice t.zA t.zones.length t.zc, .slice t.kA t.links.length t.kc, .slice t.hA t.shifts.length t.hc]
  have hal := (Below.refl W2.heap.size W2).alloc (Nat.le_refl _) (.cells #[.slice t.rA t.rules.length t.rc, .slice t.zA t.zones.length t.zc, .slice t.kA t.links.length t.kc, .slice t.hA t.shifts.length t.hc] 32)
  have HT := Lib.hid (hT.below hal); have HR := Lib.hid hR
  have HX2 := Lib.hid hx2; have HY2 := Lib.hid hy2; have HB2 := Lib.hid hb2
  have hlw : w.heap.size < W2.heap.size := Nat.lt_of_lt_of_le HX0.out.lt hc.size
  have HLW := Lib.hid hlw
  clear hc hT hR hx2 hb2 hy2 hal hlw
  by_cases h0 : m = 0
  · have HW0 := Lib.hid (HW.out h0)
    have HYES := Lib.hid (HR.out.yes h0)
    subst h0
    have HS2 := Lib.hid ((HS.out.below (HB2.out)).src)
    have cC := Lib.hid (fun W (h : Below (W2.alloc (.cells #[.slice t.rA t.rules.length t.rc, .slice t.zA t.zones.length t.zc, .slice t.kA t.links.length t.kc, .slice t.hA t.shifts.length t.hc] 32)).heap.size (W2.alloc (.cells #[.slice t.rA t.rules.length t.rc, .slice t.zA t.zones.length t.zc, .slice t.kA t.links.length t.kc, .slice t.hA t.shifts.length t.hc] 32)) W) => copy14 s W (HS2.out.below h) HFW.out)
    have c0 := (HX2.out.cell 0).trans rfl
    have c1 := (HX2.out.cell 1).trans rfl
    have c2 := (HX2.out.cell 2).trans rfl
    have c3 := (HX2.out.cell 3).trans rfl
    go_wp2_with fail
    refine (cC.out _ (Below.refl _ _)).mono ?_
    rintro x W3 ⟨c, rfl, hC, hc⟩
    have hx3 := HX2.out.below hc HX2.out.lt
    have hy3 := HY2.out.below hc HY2.out.lt
    have hb3 := HB2.out.trans (hc.mono HB2.out.size)
    clear c0 c1 c2 c3
    have c0 := (hx3.cell 0).trans rfl
    have c1 := (hx3.cell 1).trans rfl
    have c2 := (hx3.cell 2).trans rfl
    have c3 := (hx3.cell 3).trans rfl
    have f0 := hx3.frozen 0
    have f1 := hx3.frozen 1
    have f2 := hx3.frozen 2
    have f3 := hx3.frozen 3
    have hq := GS.set4 hx3 (.slice c.rA c.rules.length c.rc) (.slice c.zA c.zones.length c.zc) (.slice c.kA c.links.length c.kc) (.slice c.hA c.shifts.length c.hc)
    have HG4 := Lib.hid ((GS.below hc).trans hq.1)
    have HC3 := Lib.hid (hC.self.gs hq.1)
    have hCS := hC.same
    have HCS := Lib.hid hCS
    have hb4 := below_set4 hb3 (Nat.le_refl w.heap.size) (.slice c.rA c.rules.length c.rc) (.slice c.zA c.zones.length c.zc) (.slice c.kA c.links.length c.kc) (.slice c.hA c.shifts.length c.hc)
    have hy4 := ((((hy3.far (p := ⟨w.heap.size, 0, none⟩) (by show _ ≠ w.heap.size; have := HLW.out; omega) (.slice c.rA c.rules.length c.rc)).far (p := ⟨w.heap.size, 1, none⟩) (by show _ ≠ w.heap.size; have := HLW.out; omega) (.slice c.zA c.zones.length c.zc)).far (p := ⟨w.heap.size, 2, none⟩) (by show _ ≠ w.heap.size; have := HLW.out; omega) (.slice c.kA c.links.length c.kc)).far (p := ⟨w.heap.size, 3, none⟩) (by show _ ≠ w.heap.size; have := HLW.out; omega) (.slice c.hA c.shifts.length c.hc))
    have HX4 := Lib.hid hq.2; have HY4 := Lib.hid hy4; have HB4 := Lib.hid hb4
    have hcl : c.zones.length = 1 := by rw [hCS.zones.1, HZ.out]; rfl
    obtain ⟨z, hz0⟩ : ∃ z, c.zones[0]? = some z := ⟨_, List.getElem?_eq_getElem (by omega)⟩
    have hze : z.eras = [e] := by
      obtain ⟨y, hy, _, h2⟩ := same_eras hCS z (List.mem_of_getElem? hz0)
      rw [HZ.out] at hy
      obtain rfl := List.mem_singleton.1 hy
      exact h2
    have HZ0 := Lib.hid hz0; have HZE := Lib.hid hze
    have hcb : w.heap.size + 1 ≤ (W2.alloc (.cells #[.slice t.rA t.rules.length t.rc, .slice t.zA t.zones.length t.zc, .slice t.kA t.links.length t.kc, .slice t.hA t.shifts.length t.hc] 32)).heap.size := by have := HLW.out; simp; omega
    have HCB := Lib.hid hcb
    clear hc hC hx3 hy3 hb3 hq hCS hb4 hy4 hcb hz0 hze
    obtain ⟨W4, hW4⟩ : ∃ W4, W4 = ((((W3.setCell ⟨w.heap.size, 0, none⟩ (.slice c.rA c.rules.length c.rc)).setCell ⟨w.heap.size, 1, none⟩ (.slice c.zA c.zones.length c.zc)).setCell ⟨w.heap.size, 2, none⟩ (.slice c.kA c.links.length c.kc)).setCell ⟨w.heap.size, 3, none⟩ (.slice c.hA c.shifts.length c.hc)) := ⟨_, rfl⟩
    rw [← hW4] at HG4 HC3 HX4 HY4 HB4
    obtain ⟨zg, hzA, hzg1, _⟩ := HC3.out.zones.1.addr (by omega)
    obtain ⟨eg, heA, heg1, _⟩ := HC3.out.eraAddr HZ0.out (by rw [HZE.out]; simp)
    have hzr := HC3.out.zones.1
    rw [hzA] at hzr
    have her := HC3.out.zones.2.eras 0 z HZ0.out
    rw [heA] at her
    have zc1 : W4.cell? ⟨zg, 1, none⟩ = some (.slice (some ⟨eg, 0, none⟩) 1 z.c) := by
      have q := hzr.cellAt len_zone HZ0.out 1 _ rfl
      rw [heA, HZE.out] at q
      exact q
    have ec4 : W4.cell? ⟨eg, 4, none⟩ = some (.string e.fmt) := her.cellAt len_era (show z.eras[0]? = some e by rw [HZE.out]; rfl) 4 _ rfl
    have ef4 := her.frozenAt 4
    have HC5 := Lib.hid (show CopyOf (W4.setCell ⟨eg, 4, none⟩ (.string want)) _ (c.setEra 0 z 0 (fmtE F e)) (c.setEra 0 z 0 (fmtE F e)) from HC3.out.setCell HZ0.out heA (k := 0) (j := 4) (x := e) (y := fmtE F e) (by rw [HZE.out]; rfl) (.string want) (by decide) (by unfold fmtE; rw [HW0.out]; rfl))
    have HT5 := Lib.hid (HT.out.step (HG4.out.setHi (show (W2.alloc (.cells #[.slice t.rA t.rules.length t.rc, .slice t.zA t.zones.length t.zc, .slice t.kA t.links.length t.kc, .slice t.hA t.shifts.length t.hc] 32)).heap.size ≤ eg by omega) (.string want) (n := 4))).src
    have hcb := HCB.out
    have hl2 := HLW.out
    have HX5 := Lib.hid (HX4.out.far (p := ⟨eg, 4, none⟩) (by show w.heap.size ≠ eg; omega) (.string want))
    have HY5 := Lib.hid (HY4.out.far (p := ⟨eg, 4, none⟩) (by show W2.heap.size ≠ eg; have q := heg1; simp at q; omega) (.string want))
    have HB5 := Lib.hid (HB4.out.setCell (p := ⟨eg, 4, none⟩) (by show w.heap.size ≤ eg; omega) (.string want))
    have d1 := (HX4.out.cell 1).trans rfl
    rw [hzA] at d1
    have hlen : (0 : Int) < (c.zones.length : Int) := by rw [hcl]; decide
    have HSM := Lib.hid (turn_same HYES.out HZ.out HCS.out HZ0.out)
    have cS : Hid (∀ W, Below (W4.setCell ⟨eg, 4, none⟩ (.string want)).heap.size (W4.setCell ⟨eg, 4, none⟩ (.string want)) W → Calls Tryd.prog 22 #[.agg #[.slice t.rA t.rules.length t.rc, .slice t.zA t.zones.length t.zc, .slice t.kA t.links.length t.kc, .slice t.hA t.shifts.length t.hc], .agg #[.slice c.rA c.rules.length c.rc, .slice (some ⟨zg, 0, none⟩) c.zones.length c.zc, .slice c.kA c.links.length c.kc, .slice c.hA c.shifts.length c.hc]] W fun x W' => x = .returned (.bool true) ∧ Below W.heap.size W W') := Lib.hid fun W hb => by
      have q := same14_any t (c.setEra 0 z 0 (fmtE F e)) W (HT5.out.below hb) (HC5.out.src.below hb) (big_map HFW.out HYES.out)
      rw [show (c.setEra 0 z 0 (fmtE F e)).zones.length = c.zones.length from List.length_set .., show (c.setEra 0 z 0 (fmtE F e)).zA = some ⟨zg, 0, none⟩ from hzA] at q
      refine Calls.mono (P := Tryd.prog) q ?_
      rintro x W' ⟨R, hR, rfl, hb'⟩
      obtain rfl : R = true := hR.2 HSM.out
      exact ⟨rfl, hb'⟩
    have HZA := Lib.hid hzA; have HEG := Lib.hid heg1
    clear hzr her heg1 hzg1 hcb hl2 hzA heA hcl
    go_upto_region 5 with fail
    rw [← hW4]
    clear hW4 f0 f1 f2 f3 c0 c1 c2 c3
    have y0 := (HY5.out.cell 0).trans rfl
    have y1 := (HY5.out.cell 1).trans rfl
    have y2 := (HY5.out.cell 2).trans rfl
    have y3 := (HY5.out.cell 3).trans rfl
    have x0 := (HX5.out.cell 0).trans rfl; have x1 := (HX5.out.cell 1).trans rfl; have x2 := (HX5.out.cell 2).trans rfl; have x3 := (HX5.out.cell 3).trans rfl
    rw [HZA.out] at x1
    go_wp2_with fail
    refine (cS.out _ (Below.refl _ _)).mono ?_
    rintro x W6 ⟨rfl, hc6⟩
    clear zc1 ec4 ef4 d1 y0 y1 y2 y3 x0 x1 x2 x3
    go_wp2_with fail
    go_ret
    exact ⟨rfl, HB5.out.trans (hc6.mono HB5.out.size)⟩
  · have HNO := Lib.hid (HR.out.no h0)
    have hd : (m == 0) = false := by simpa using h0
    have HT2 := Lib.hid HT.out.src
    have y0 := (HY2.out.cell 0).trans rfl
    have y1 := (HY2.out.cell 1).trans rfl
    have y2 := (HY2.out.cell 2).trans rfl
    have y3 := (HY2.out.cell 3).trans rfl
    have cS := Lib.hid (fun W (hb : Below (W2.alloc (.cells #[.slice t.rA t.rules.length t.rc, .slice t.zA t.zones.length t.zc, .slice t.kA t.links.length t.kc, .slice t.hA t.shifts.length t.hc] 32)).heap.size (W2.alloc (.cells #[.slice t.rA t.rules.length t.rc, .slice t.zA t.zones.length t.zc, .slice t.kA t.links.length t.kc, .slice t.hA t.shifts.length t.hc] 32)) W) => show Calls Tryd.prog 22 #[.agg #[.slice t.rA t.rules.length t.rc, .slice t.zA t.zones.length t.zc, .slice t.kA t.links.length t.kc, .slice t.hA t.shifts.length t.hc], .agg #[.slice none 0 0, .slice none 0 0, .slice none 0 0, .slice none 0 0]] W fun x W' => x = .returned (.bool true) ∧ Below W.heap.size W W' from by
      have q := same14_any t nilS W (HT2.out.below hb) (nilS_in W) (big_nil HNO.out)
      refine Calls.mono (P := Tryd.prog) q ?_
      rintro x W' ⟨R, hR, rfl, hb'⟩
      obtain rfl : R = true := hR.2 HNO.out
      exact ⟨rfl, hb'⟩)
    clear h0
    go_wp2_with fail
    refine (cS.out _ (Below.refl _ _)).mono ?_
    rintro x W6 ⟨rfl, hc6⟩
    go_wp2_with fail
    go_ret
    exact ⟨rfl, HB2.out.trans (hc6.mono HB2.out.size)⟩
end Go.Proofs.YtlideagcmhlkeaaDoor

/- The rules of a set (ruleset.Of): what it returns. -/
namespace Go.Proofs.YtlideagcmhlkeaaDoor
open Go.RowKit Go.Lib
set_option linter.unusedVariables false
set_option linter.unusedSimpArgs false

theorem ofSet_snoc {L : List RV} {k : Nat} {r : RV} {nm : ByteArray} (h : L[k]? = some r) : ofSet (L.take (k + 1)) nm = ofSet (L.take k) nm ++ (if r.name = nm then [r] else []) := by
  rw [List.take_add_one, h]
  unfold ofSet
  rw [List.filter_append]
  by_cases hq : r.name = nm <;> simp [hq]
theorem ofSet_len (L : List RV) (k : Nat) (nm : ByteArray) : (ofSet (L.take k) nm).length ≤ L.length := Nat.le_trans (List.length_filter_le ..) (by rw [List.length_take]; omega)
set_option maxRecDepth 100000 in
set_option maxHeartbeats 8000000 in
theorem setof_any (s : SV) (nm : ByteArray) (w : World) (hS : SrcIn w s) (hl : s.rules.length ≤ 100000) :
    Calls Tryd.prog 16 #[.agg #[.slice s.rA s.rules.length s.rc, .slice s.zA s.zones.length s.zc, .slice s.kA s.links.length s.kc, .slice s.hA s.shifts.length s.hc], .string nm] w fun e w' => ∃ A c, e = .returned (.slice A (ofSet s.rules nm).length c) ∧ RulesIn w' A (ofSet s.rules nm) ∧ Below w.heap.size w w' := by
  have HS := Lib.hid hS
  clear hS
  have hB := Blk.new w 32 #[.slice s.rA s.rules.length s.rc, .slice s.zA s.zones.length s.zc, .slice s.kA s.links.length s.kc, .slice s.hA s.shifts.length s.hc]
  have hb0 := (Below.refl _ w).alloc (Nat.le_refl _) (.cells #[.slice s.rA s.rules.length s.rc, .slice s.zA s.zones.length s.zc, .slice s.kA s.links.length s.kc, .slice s.hA s.shifts.length s.hc] 32)
  have HB := Lib.hid hB; have HBL := Lib.hid hb0
  have c0 := (hB.cell 0).trans rfl
  have hL2 : (s.rules.length : Int) ≤ 100000 := by omega
  clear hB hb0
  go_enter Tryd.func16, Tryd.ntmps16
  go_wp2_with fail
  clear c0
  go_loopw [5, 11] (fun v i W => ∃ k : Nat, k ≤ s.rules.length ∧ i = .int .i64 k ∧ W.ownsRow (w.heap.size + 1) 83 11 v (ofSet (s.rules.take k) nm).length ((ofSet (s.rules.take k) nm).flatMap RV.cells) ∧ Below w.heap.size w W ∧ w.heap.size + 1 ≤ W.heap.size) (fun _ i _ => s.rules.length - (intOf i).toNat)
  case atStart => exact ⟨0, Nat.zero_le _, rfl, by simpa [ofSet] using World.ownsRow_nil .., HBL.out, by simp⟩
  case round =>
    clear HB HBL
    obtain ⟨k, hk, rfl, hrow, hbl, hsz⟩ := hrel
    by_cases hlt : k < s.rules.length
    · have hki : (k : Int) < (s.rules.length : Int) := by omega
      obtain ⟨r, hr⟩ : ∃ r, s.rules[k]? = some r := ⟨_, List.getElem?_eq_getElem hlt⟩
      obtain ⟨g, o, hA, hg, hc⟩ := (HS.out.rules.below hbl) k r hr
      have x0 : wr.cell? ⟨g, o + k * 11, none⟩ = some (.string r.name) := hc 0 _ rfl; have x1 := hc 1 _ rfl; have x2 := hc 2 _ rfl; have x3 := hc 3 _ rfl; have x4 := hc 4 _ rfl; have x5 := hc 5 _ rfl
      have x6 := hc 6 _ rfl; have x7 := hc 7 _ rfl; have x8 := hc 8 _ rfl; have x9 := hc 9 _ rfl; have x10 := hc 10 _ rfl
      have HSN := Lib.hid (ofSet_snoc (nm := nm) hr)
      have HLN := Lib.hid (ofSet_len s.rules k nm)
      have HL := Lib.hid hl; have HLT := Lib.hid hlt
      have HBL := Lib.hid hbl; have HSZ := Lib.hid hsz
      have hal := (Below.refl wr.heap.size wr).alloc (Nat.le_refl _) (.cells #[.string r.name, .int .i64 r.frm, .int .i64 r.til, .int .i64 r.month, .int .i64 r.dk, .int .i64 r.dw, .int .i64 r.dd, .int .i64 r.asec, .int .i64 r.abase, .int .i64 r.save, .string r.letter] 83)
      have HAL := Lib.hid hal
      have HRW := Lib.hid (own_below hrow hal)
      rw [hA]
      clear hc hr hrow hbl hsz hlt hl hal hA
      by_cases hq : r.name = nm
      · have hd : (r.name.toList == nm.toList) = true := by rw [hq]; simp
        have HQ := Lib.hid hq
        clear hq
        obtain ⟨i1, hi, hz0, hz1, hz2⟩ := info_parts infoRuleC
        have hal2 := (Below.refl (wr.alloc (.cells #[.string r.name, .int .i64 r.frm, .int .i64 r.til, .int .i64 r.month, .int .i64 r.dk, .int .i64 r.dw, .int .i64 r.dd, .int .i64 r.asec, .int .i64 r.abase, .int .i64 r.save, .string r.letter] 83)).heap.size _).alloc (Nat.le_refl _) (.cells #[.string r.name, .int .i64 r.frm, .int .i64 r.til, .int .i64 r.month, .int .i64 r.dk, .int .i64 r.dw, .int .i64 r.dd, .int .i64 r.asec, .int .i64 r.abase, .int .i64 r.save, .string r.letter] 83)
        have HO := Lib.hid (own_below HRW.out hal2)
        have HB2 := Lib.hid (HBL.out.trans ((HAL.out.trans (hal2.mono (by simp))).mono HBL.out.size))
        have HNB := Lib.hid (Blk.newAt (wr.alloc (.cells #[.string r.name, .int .i64 r.frm, .int .i64 r.til, .int .i64 r.month, .int .i64 r.dk, .int .i64 r.dw, .int .i64 r.dd, .int .i64 r.asec, .int .i64 r.abase, .int .i64 r.save, .string r.letter] 83)) (wr.heap.size + 1) (by simp) 83 #[.string r.name, .int .i64 r.frm, .int .i64 r.til, .int .i64 r.month, .int .i64 r.dk, .int .i64 r.dw, .int .i64 r.dd, .int .i64 r.asec, .int .i64 r.abase, .int .i64 r.save, .string r.letter])
        have HSB := Lib.hid (show w.heap.size + 1 ≤ ((wr.alloc (.cells #[.string r.name, .int .i64 r.frm, .int .i64 r.til, .int .i64 r.month, .int .i64 r.dk, .int .i64 r.dw, .int .i64 r.dd, .int .i64 r.asec, .int .i64 r.abase, .int .i64 r.save, .string r.letter] 83)).alloc (.cells #[.string r.name, .int .i64 r.frm, .int .i64 r.til, .int .i64 r.month, .int .i64 r.dk, .int .i64 r.dw, .int .i64 r.dd, .int .i64 r.asec, .int .i64 r.abase, .int .i64 r.save, .string r.letter] 83)).heap.size by have := HSZ.out; simp; omega)
        clear hal2 HRW HAL
        go_wp2_with (at_builtin; refine wpList_append_own _ rfl _ _ 27 rfl (w.heap.size + 1) 83 i1 _ 11 104 Tryd.underlying27 hi hz0 hz1 hz2 rfl (by decide) _ _ _ rfl HO.out ⟨wr.heap.size + 1, 0, none⟩ 1 1 r.cells rfl rfl (blk_cells HNB.out) (one_rule r) (by have := HLN.out; have := HL.out; simp only [maxLen]; omega) (by have := HLN.out; have := HL.out; omega) HSB.out ?_)
        intro v1 W6 hown hgr hne
        have HOW := Lib.hid hown
        have HGR := Lib.hid (own_grown HB2.out HO.out hgr HB2.out.size (by omega))
        have HSZ6 := Lib.hid hgr.size
        clear hown hgr hne hi hz0 hz1 hz2 HNB HO x0 x1 x2 x3 x4 x5 x6 x7 x8 x9 x10
        go_wp2_with fail
        go_roundw
        case rel => exact ⟨k + 1, by have := HLT.out; omega, by go_num, by rw [HSN.out, if_pos HQ.out, List.length_append, List.flatMap_append, List.flatMap_singleton]; exact HOW.out, HGR.out, Nat.le_trans HSB.out HSZ6.out⟩
        case measure => have := HLT.out; simp [intOf]; omega
      · have hd : (r.name.toList == nm.toList) = false := eq_b _ _ hq
        have HQ := Lib.hid hq
        clear hq
        go_wp2_with fail
        go_roundw
        case rel => exact ⟨k + 1, by have := HLT.out; omega, by go_num, by rw [HSN.out, if_neg HQ.out, List.append_nil]; exact HRW.out, HBL.out.trans (HAL.out.mono HBL.out.size), by have := HSZ.out; simp; omega⟩
        case measure => have := HLT.out; simp [intOf]; omega
    · obtain rfl : k = s.rules.length := by omega
      have hrow2 := hrow
      rw [List.take_length] at hrow2
      obtain ⟨A, c, rfl⟩ := row_is hrow2
      have HR := Lib.hid (RowOf.cellsIn (show RowOf wr (w.heap.size + 1) 83 11 RV.cells A c (ofSet s.rules nm) from hrow2) len_rule)
      have HBL := Lib.hid hbl
      clear hrow hrow2 hbl
      go_wp2_with fail
      go_ret
      exact ⟨A, c, rfl, HR.out, HBL.out⟩
end Go.Proofs.YtlideagcmhlkeaaDoor

/- expand.number: what stands for %z in an era of a source. -/
namespace Go.Proofs.YtlideagcmhlkeaaDoor
open Go.RowKit Go.Lib
set_option linter.unusedVariables false
set_option linter.unusedSimpArgs false

theorem keep30 {w W : World} {s : SV} {e : EV} (h : Blk W w.heap.size 32 #[.slice s.rA s.rules.length s.rc, .slice s.zA s.zones.length s.zc, .slice s.kA s.links.length s.kc, .slice s.hA s.shifts.length s.hc]) (k : Blk W (w.heap.size + 1) 47 #[.int .i64 e.off, .int .i64 e.kind, .int .i64 e.save, .string e.set, .string e.fmt, .bool e.ui, .int .i64 e.uy, .int .i64 e.um, .int .i64 e.dk, .int .i64 e.dw, .int .i64 e.dd, .int .i64 e.asec, .int .i64 e.ab]) (hb : Below w.heap.size w W) : W.cell? ⟨w.heap.size, 0, none⟩ = some (.slice s.rA s.rules.length s.rc) ∧ W.cell? ⟨w.heap.size, 1, none⟩ = some (.slice s.zA s.zones.length s.zc) ∧ W.cell? ⟨w.heap.size, 2, none⟩ = some (.slice s.kA s.links.length s.kc) ∧ W.cell? ⟨w.heap.size, 3, none⟩ = some (.slice s.hA s.shifts.length s.hc) ∧ W.cell? ⟨w.heap.size + 1, 0, none⟩ = some (.int .i64 e.off) ∧ W.cell? ⟨w.heap.size + 1, 1, none⟩ = some (.int .i64 e.kind) ∧ W.cell? ⟨w.heap.size + 1, 2, none⟩ = some (.int .i64 e.save) ∧ W.cell? ⟨w.heap.size + 1, 3, none⟩ = some (.string e.set) ∧ W.cell? ⟨w.heap.size + 1, 4, none⟩ = some (.string e.fmt) ∧ W.cell? ⟨w.heap.size + 1, 5, none⟩ = some (.bool e.ui) ∧ W.cell? ⟨w.heap.size + 1, 6, none⟩ = some (.int .i64 e.uy) ∧ W.cell? ⟨w.heap.size + 1, 7, none⟩ = some (.int .i64 e.um) ∧ W.cell? ⟨w.heap.size + 1, 8, none⟩ = some (.int .i64 e.dk) ∧ W.cell? ⟨w.heap.size + 1, 9, none⟩ = some (.int .i64 e.dw) ∧ W.cell? ⟨w.heap.size + 1, 10, none⟩ = some (.int .i64 e.dd) ∧ W.cell? ⟨w.heap.size + 1, 11, none⟩ = some (.int .i64 e.asec) ∧ W.cell? ⟨w.heap.size + 1, 12, none⟩ = some (.int .i64 e.ab) ∧ Blk W w.heap.size 32 #[.slice s.rA s.rules.length s.rc, .slice s.zA s.zones.length s.zc, .slice s.kA s.links.length s.kc, .slice s.hA s.shifts.length s.hc] ∧ Blk W (w.heap.size + 1) 47 #[.int .i64 e.off, .int .i64 e.kind, .int .i64 e.save, .string e.set, .string e.fmt, .bool e.ui, .int .i64 e.uy, .int .i64 e.um, .int .i64 e.dk, .int .i64 e.dw, .int .i64 e.dd, .int .i64 e.asec, .int .i64 e.ab] ∧ Below w.heap.size w W :=
  ⟨(h.cell 0).trans rfl, (h.cell 1).trans rfl, (h.cell 2).trans rfl, (h.cell 3).trans rfl, (k.cell 0).trans rfl, (k.cell 1).trans rfl, (k.cell 2).trans rfl, (k.cell 3).trans rfl, (k.cell 4).trans rfl, (k.cell 5).trans rfl, (k.cell 6).trans rfl, (k.cell 7).trans rfl, (k.cell 8).trans rfl, (k.cell 9).trans rfl, (k.cell 10).trans rfl, (k.cell 11).trans rfl, (k.cell 12).trans rfl, h, k, hb⟩
set_option maxRecDepth 100000 in
set_option maxHeartbeats 8000000 in
theorem number_any (s : SV) (e : EV) (w : World) (hS : SrcIn w s) (hl : s.rules.length ≤ 1000) (hsv : SvOk s.rules) (h1 : -9223372036854775808 ≤ e.off ∧ e.off ≤ 9223372036854775807) (h2 : -9223372036854775808 ≤ e.save ∧ e.save ≤ 9223372036854775807) :
    Calls Tryd.prog 49 #[.agg #[.slice s.rA s.rules.length s.rc, .slice s.zA s.zones.length s.zc, .slice s.kA s.links.length s.kc, .slice s.hA s.shifts.length s.hc], .agg #[.int .i64 e.off, .int .i64 e.kind, .int .i64 e.save, .string e.set, .string e.fmt, .bool e.ui, .int .i64 e.uy, .int .i64 e.um, .int .i64 e.dk, .int .i64 e.dw, .int .i64 e.dd, .int .i64 e.asec, .int .i64 e.ab]] w fun x w' => x = .returned (.tuple #[.string (num30 s.rules e).1, .int .i64 (num30 s.rules e).2]) ∧ Below w.heap.size w w' := by
  have hB := (Blk.new w 32 #[.slice s.rA s.rules.length s.rc, .slice s.zA s.zones.length s.zc, .slice s.kA s.links.length s.kc, .slice s.hA s.shifts.length s.hc]).alloc (.cells #[.int .i64 e.off, .int .i64 e.kind, .int .i64 e.save, .string e.set, .string e.fmt, .bool e.ui, .int .i64 e.uy, .int .i64 e.um, .int .i64 e.dk, .int .i64 e.dw, .int .i64 e.dd, .int .i64 e.asec, .int .i64 e.ab] 47)
  have hE := Blk.newAt (w.alloc (.cells #[.slice s.rA s.rules.length s.rc, .slice s.zA s.zones.length s.zc, .slice s.kA s.links.length s.kc, .slice s.hA s.shifts.length s.hc] 32)) (w.heap.size + 1) (by simp) 47 #[.int .i64 e.off, .int .i64 e.kind, .int .i64 e.save, .string e.set, .string e.fmt, .bool e.ui, .int .i64 e.uy, .int .i64 e.um, .int .i64 e.dk, .int .i64 e.dw, .int .i64 e.dd, .int .i64 e.asec, .int .i64 e.ab]
  have hb0 := ((Below.refl _ w).alloc (Nat.le_refl _) (.cells #[.slice s.rA s.rules.length s.rc, .slice s.zA s.zones.length s.zc, .slice s.kA s.links.length s.kc, .slice s.hA s.shifts.length s.hc] 32)).alloc (by simp) (.cells #[.int .i64 e.off, .int .i64 e.kind, .int .i64 e.save, .string e.set, .string e.fmt, .bool e.ui, .int .i64 e.uy, .int .i64 e.um, .int .i64 e.dk, .int .i64 e.dw, .int .i64 e.dd, .int .i64 e.asec, .int .i64 e.ab] 47)
  have cX : Hid (∀ (A : Option Addr) (L : List RV) (c : Nat) (W : World), L.length ≤ 1000000 → SvOk L → RulesIn W A L → Calls Tryd.prog 18 #[.agg #[.int .i64 e.off, .int .i64 e.kind, .int .i64 e.save, .string e.set, .string e.fmt, .bool e.ui, .int .i64 e.uy, .int .i64 e.um, .int .i64 e.dk, .int .i64 e.dw, .int .i64 e.dd, .int .i64 e.asec, .int .i64 e.ab], .slice A L.length c] W fun x w' => x = .returned (.tuple #[.string (str (P20.expansion e.kind e.off e.save (svs L)).1), .int .i64 (P20.expansion e.kind e.off e.save (svs L)).2]) ∧ Below W.heap.size W w') := Lib.hid fun A L c W a b d => expansion_any e.off e.kind e.save e.set e.fmt e.ui e.uy e.um e.dk e.dw e.dd e.asec e.ab A L c W h1 h2 a b d
  have cO : Hid (∀ W, Below w.heap.size w W → Calls Tryd.prog 16 #[.agg #[.slice s.rA s.rules.length s.rc, .slice s.zA s.zones.length s.zc, .slice s.kA s.links.length s.kc, .slice s.hA s.shifts.length s.hc], .string e.set] W fun x w' => ∃ A c, x = .returned (.slice A (ofSet s.rules e.set).length c) ∧ RulesIn w' A (ofSet s.rules e.set) ∧ Below W.heap.size W w') := Lib.hid fun W hb => setof_any s e.set W (hS.below hb) (by omega)
  have HOL := Lib.hid (show (ofSet s.rules e.set).length ≤ 1000000 from Nat.le_trans (List.length_filter_le ..) (by omega))
  have HOS := Lib.hid (show SvOk (ofSet s.rules e.set) from fun y hy => by
    obtain ⟨r, hr, rfl⟩ := List.mem_map.1 hy
    exact hsv _ (List.mem_map.2 ⟨r, (List.mem_filter.1 hr).1, rfl⟩))
  have HB := Lib.hid hB; have HE := Lib.hid hE; have HBL := Lib.hid hb0
  clear hS hl hsv h1 h2 hB hE hb0
  by_cases hk : e.kind = 2
  · have HN := Lib.hid (show num30 s.rules e = (str (P20.expansion e.kind e.off e.save (svs (ofSet s.rules e.set))).1, (P20.expansion e.kind e.off e.save (svs (ofSet s.rules e.set))).2) from by unfold num30; rw [if_pos hk])
    have HK := Lib.hid hk
    have hd : (e.kind == 2) = true := by rw [hk]; rfl
    clear hk
    go_enter Tryd.func49, Tryd.ntmps49
    go_wp2_with fail
    go_region_held3 (fun W => W.cell? ⟨w.heap.size, 0, none⟩ = some (.slice s.rA s.rules.length s.rc) ∧ W.cell? ⟨w.heap.size, 1, none⟩ = some (.slice s.zA s.zones.length s.zc) ∧ W.cell? ⟨w.heap.size, 2, none⟩ = some (.slice s.kA s.links.length s.kc) ∧ W.cell? ⟨w.heap.size, 3, none⟩ = some (.slice s.hA s.shifts.length s.hc) ∧ W.cell? ⟨w.heap.size + 1, 0, none⟩ = some (.int .i64 e.off) ∧ W.cell? ⟨w.heap.size + 1, 1, none⟩ = some (.int .i64 e.kind) ∧ W.cell? ⟨w.heap.size + 1, 2, none⟩ = some (.int .i64 e.save) ∧ W.cell? ⟨w.heap.size + 1, 3, none⟩ = some (.string e.set) ∧ W.cell? ⟨w.heap.size + 1, 4, none⟩ = some (.string e.fmt) ∧ W.cell? ⟨w.heap.size + 1, 5, none⟩ = some (.bool e.ui) ∧ W.cell? ⟨w.heap.size + 1, 6, none⟩ = some (.int .i64 e.uy) ∧ W.cell? ⟨w.heap.size + 1, 7, none⟩ = some (.int .i64 e.um) ∧ W.cell? ⟨w.heap.size + 1, 8, none⟩ = some (.int .i64 e.dk) ∧ W.cell? ⟨w.heap.size + 1, 9, none⟩ = some (.int .i64 e.dw) ∧ W.cell? ⟨w.heap.size + 1, 10, none⟩ = some (.int .i64 e.dd) ∧ W.cell? ⟨w.heap.size + 1, 11, none⟩ = some (.int .i64 e.asec) ∧ W.cell? ⟨w.heap.size + 1, 12, none⟩ = some (.int .i64 e.ab) ∧ Blk W w.heap.size 32 #[.slice s.rA s.rules.length s.rc, .slice s.zA s.zones.length s.zc, .slice s.kA s.links.length s.kc, .slice s.hA s.shifts.length s.hc] ∧ Blk W (w.heap.size + 1) 47 #[.int .i64 e.off, .int .i64 e.kind, .int .i64 e.save, .string e.set, .string e.fmt, .bool e.ui, .int .i64 e.uy, .int .i64 e.um, .int .i64 e.dk, .int .i64 e.dw, .int .i64 e.dd, .int .i64 e.asec, .int .i64 e.ab] ∧ Below w.heap.size w W) (first | exact keep30 HB.out HE.out HBL.out | exact keep30 (HB.out.below (below_drewN (Below.refl _ _) 1) HB.out.lt) (HE.out.below (below_drewN (Below.refl _ _) 1) HE.out.lt) (below_drewN HBL.out 1) | exact keep30 hB2 hE2 hb2 | exact keep30 hB3 hE3 hb3 | assumption)
      (first | (go_at_call 16; refine (cO.out _ (by first | exact HBL.out | exact below_drewN HBL.out 1 | exact HBL.out.drew)).mono ?_; rintro x w2 ⟨A, c, rfl, hR2, hc2⟩; have hB2 := HB.out.below ((Below.refl _ _).drew.trans (hc2.mono (Nat.le_refl _))) HB.out.lt; have hE2 := HE.out.below ((Below.refl _ _).drew.trans (hc2.mono (Nat.le_refl _))) HE.out.lt; have hb2 := HBL.out.drew.trans (hc2.mono HBL.out.drew.size)) | (go_at_call 18; refine (cX.out _ _ _ _ HOL.out HOS.out hR2).mono ?_; rintro x w3 ⟨rfl, hc3⟩; have hB3 := hB2.below hc3 hB2.lt; have hE3 := hE2.below hc3 hE2.lt; have hb3 := hb2.trans (hc3.mono hb2.size)))
    all_goals
      go_wp2_with fail
      go_ret2
      exact ⟨by rw [HN.out]; rfl, hb3⟩
  · have HN := Lib.hid (show num30 s.rules e = (str (P20.expansion e.kind e.off e.save (svs [])).1, (P20.expansion e.kind e.off e.save (svs [])).2) from by unfold num30; rw [if_neg hk])
    have hd : (e.kind == 2) = false := by simpa using hk
    have e0 := (HE.out.cell 0).trans rfl; have e1 := (HE.out.cell 1).trans rfl; have e2 := (HE.out.cell 2).trans rfl; have e3 := (HE.out.cell 3).trans rfl; have e4 := (HE.out.cell 4).trans rfl
    clear hk
    go_enter Tryd.func49, Tryd.ntmps49
    go_wp2_with fail
    refine (cX.out none [] 0 _ (by simp) (fun y hy => by simp [svs] at hy) (RulesIn.nil _ _)).mono ?_
    rintro x w3 ⟨rfl, hc3⟩
    go_wp2_with fail
    go_ret2
    exact ⟨by rw [HN.out]; rfl, HBL.out.trans (hc3.mono HBL.out.size)⟩
end Go.Proofs.YtlideagcmhlkeaaDoor

/- Plain mathematics of FORMATs (chapter 21): which kind a string of some parts is; no program in sight. -/
namespace Go.Proofs.YtlideagcmhlkeaaDoor.P21
set_option linter.unusedVariables false

/-- a byte of a number -/
def isN (c : UInt8) : Bool := P4.isD c || (c == 43 || c == 45)
theorem two_isD (k : Nat) (hk : k < 100) : ∀ c ∈ P4.two k, P4.isD c = true := by
  intro c hc
  have h1 : (UInt8.ofNat (48 + k / 10)).toNat = 48 + k / 10 := by rw [UInt8.toNat_ofNat']; omega
  have h2 : (UInt8.ofNat (48 + k % 10)).toNat = 48 + k % 10 := by rw [UInt8.toNat_ofNat']; omega
  simp only [P4.two, List.mem_cons, List.not_mem_nil, or_false] at hc
  rcases hc with rfl | rfl
  · simp only [P4.isD, h1, decide_eq_true_eq]; omega
  · simp only [P4.isD, h2, decide_eq_true_eq]; omega
theorem textN_isD (n : Nat) (h : n ≤ 86399) : ∀ c ∈ P20.textN n, P4.isD c = true := by
  intro c hc
  unfold P20.textN at hc
  rw [List.mem_append, List.mem_append] at hc
  rcases hc with (hc | hc) | hc
  · exact two_isD _ (by omega) c hc
  · split at hc
    · simp at hc
    · exact two_isD _ (by omega) c hc
  · split at hc
    · simp at hc
    · exact two_isD _ (by omega) c hc
theorem num_text {l : List UInt8} (h : num l = true) : ∃ y : Int, -86399 ≤ y ∧ y ≤ 86399 ∧ l = P20.text y ∧ P20.parse l = (y, 0) := by
  unfold num at h
  rw [decide_eq_true_eq] at h
  rcases P20.parse_cases l with ⟨y, h1, h2, _, h3, h4⟩ | h1
  · exact ⟨y, h3, h4, h2.symm, h1⟩
  · rw [h1] at h; cases h
theorem num_of_text {y : Int} (h0 : -86399 ≤ y) (h1 : y ≤ 86399) : num (P20.text y) = true := by
  unfold num
  rw [P20.parse_text h0 h1]; rfl
theorem num_head {l : List UInt8} (h : num l = true) : ∃ c t, l = c :: t ∧ (c = 43 ∨ c = 45) ∧ (∀ d ∈ t, P4.isD d = true) ∧ 2 ≤ t.length := by
  obtain ⟨y, h0, h1, rfl, _⟩ := num_text h
  rw [P20.text_in h0 h1]
  refine ⟨_, _, rfl, ?_, textN_isD _ (by omega), ?_⟩
  · split
    · exact .inr rfl
    · exact .inl rfl
  · have := P20.textN_len y.natAbs; omega
theorem num_mem {l : List UInt8} (h : num l = true) : ∀ c ∈ l, isN c = true := by
  obtain ⟨c, t, rfl, hc, ht, _⟩ := num_head h
  intro d hd
  rcases List.mem_cons.1 hd with rfl | hd
  · rcases hc with rfl | rfl <;> decide
  · unfold isN; rw [ht d hd]; rfl
theorem num_no {l : List UInt8} {c : UInt8} (hc : c ∈ l) (h : isN c = false) : num l = false := by
  cases q : num l with
  | false => rfl
  | true => rw [num_mem q c hc] at h; cases h
theorem isL_isN {c : UInt8} (h : isL c = true) : isN c = false := by
  unfold isL isLr at h
  simp only [Bool.or_eq_true, Bool.and_eq_true, decide_eq_true_eq] at h
  have e1 : c ≠ 43 := by rintro rfl; revert h; decide
  have e2 : c ≠ 45 := by rintro rfl; revert h; decide
  unfold isN P4.isD
  rw [decide_eq_false (by omega), beq_eq_false_iff_ne.2 e1, beq_eq_false_iff_ne.2 e2]; rfl
theorem isL_ne {c d : UInt8} (h : isL c = true) (hd : isL d = false) : c ≠ d := by
  rintro rfl; rw [h] at hd; cases hd
theorem abbr_all {l : List UInt8} (h : abbr l = true) : 3 ≤ l.length ∧ l.length ≤ 6 ∧ ∀ c ∈ l, isL c = true := by
  unfold abbr at h
  simp only [Bool.and_eq_true, decide_eq_true_eq, List.all_eq_true] at h
  exact ⟨h.1.1, h.1.2, h.2⟩
theorem abbr_of {l : List UInt8} (h3 : 3 ≤ l.length) (h6 : l.length ≤ 6) (h : ∀ c ∈ l, isL c = true) : abbr l = true := by
  unfold abbr
  rw [decide_eq_true h3, decide_eq_true h6, List.all_eq_true.2 h]; rfl
theorem abbr_no {l : List UInt8} {c : UInt8} (hc : c ∈ l) (h : isL c = false) : abbr l = false := by
  cases q : abbr l with
  | false => rfl
  | true => rw [(abbr_all q).2.2 c hc] at h; cases h
theorem abbr_num {l : List UInt8} (h : abbr l = true) : num l = false := by
  obtain ⟨h3, _, h⟩ := abbr_all h
  cases l with
  | nil => simp at h3
  | cons c t => exact num_no (List.mem_cons_self ..) (isL_isN (h c (List.mem_cons_self ..)))
theorem num_abbr {l : List UInt8} (h : num l = true) : abbr l = false := by
  cases q : abbr l with
  | false => rfl
  | true => rw [abbr_num q] at h; cases h
theorem letter_no {l : List UInt8} {c : UInt8} (hc : c ∈ l) (h : isL c = false) (h1 : c ≠ 37) : letter l = false := by
  cases q : letter l with
  | false => rfl
  | true =>
    rcases letter_mem q c hc with x | x | x
    · rw [x] at h; cases h
    · exact absurd x h1
    · rw [x] at h; revert h; decide
theorem slash_no {l : List UInt8} (h : ∀ c ∈ l, c ≠ 47) : (slash l).2.2 = false := by
  cases q : (slash l).2.2 with
  | false => rfl
  | true => exact absurd rfl (h _ (slash_mem q))
theorem slash_at {a b : List UInt8} (h : ∀ c ∈ a, c ≠ 47) : slash (a ++ 47 :: b) = (a, b, true) := by
  unfold slash
  have := cut1_at (l := a ++ 47 :: b) (c := 47) (i := a.length) (by simp) fun j hj q => by
    rw [List.getElem?_append_left hj] at q
    exact h _ (List.mem_of_getElem? q) rfl
  rw [this, List.take_left, ← List.drop_drop, List.drop_left]; rfl
theorem kind_slash {l a b : List UInt8} (h : slash l = (a, b, true)) : abbr l = false ∧ letter l = false ∧ l ≠ [37, 122] ∧ num l = false := by
  have hm : (47 : UInt8) ∈ l := slash_mem (by rw [h])
  exact ⟨abbr_no hm (by decide), letter_no hm (by decide) (by decide), by rintro rfl; revert hm; decide, num_no hm (by decide)⟩
theorem kind5s {l a b : List UInt8} (h : slash l = (a, b, true)) (ha : num a = true) (hb : num b = true) : kind l = 5 := by
  obtain ⟨h1, h2, h3, h4⟩ := kind_slash h
  unfold kind
  rw [if_neg (by rw [h1]; decide), if_neg (by rw [h, num_abbr ha]; simp), if_neg (by rw [h2]; decide), if_neg h3, if_pos (by rw [h, ha, hb]; simp)]
theorem kind5 {l : List UInt8} (h : num l = true) : kind l = 5 := by
  have h1 := num_abbr h
  have h2 : (slash l).2.2 = false := slash_no fun c hc => by
    rintro rfl
    have := num_mem h _ hc
    revert this; decide
  obtain ⟨c, t, rfl, hc, _⟩ := num_head h
  have h3 : letter (c :: t) = false := letter_no (List.mem_cons_self ..) (by rcases hc with rfl | rfl <;> decide) (by rcases hc with rfl | rfl <;> decide)
  unfold kind
  rw [if_neg (by rw [h1]; decide), if_neg (by rw [h2]; simp), if_neg (by rw [h3]; decide), if_neg (by rintro q; rw [List.cons.injEq] at q; rcases hc with rfl | rfl <;> exact absurd q.1 (by decide)), if_pos (by rw [h]; rfl)]
/-- concrete strings -/
theorem kind_z : kind [37, 122] = 4 := by decide +kernel
end Go.Proofs.YtlideagcmhlkeaaDoor.P21

/- The walks of small functions of chapters 7 and 21: letters, abbreviations, what stands around %s and a slash. -/
namespace Go.Proofs.YtlideagcmhlkeaaDoor
open Go.RowKit Go.Lib
set_option linter.unusedVariables false

/-- what chapters 21 and 24 read: the error of a number that is none, and some number of bytes -/
structure Vars21 (w : World) : Prop where
  num : Vars w
  max : ∃ m, w.cell? ⟨1, 0, none⟩ = some (.int .i64 m)
  big : 1 < w.heap.size
theorem Vars21.below {w w' : World} (h : Vars21 w) (hb : Below w.heap.size w w') : Vars21 w' := by
  obtain ⟨m, hm⟩ := h.max
  exact ⟨h.num.below hb, ⟨m, (hb.cell (p := ⟨1, 0, none⟩) h.big).trans hm⟩, Nat.lt_of_lt_of_le h.big hb.size⟩

/-- strings.Cut -/
theorem cut21 (s : ByteArray) (sep : List UInt8) (w : World) (hs : s.size ≤ 1000000) (hv : Vars21 w) :
    Calls Tryd.prog 66 #[.string s, .string (str sep)] w fun e w' => e = .returned (.tuple #[.string (str (Lib.cut (P4.bl s) sep).1), .string (str (Lib.cut (P4.bl s) sep).2.1), .bool (Lib.cut (P4.bl s) sep).2.2]) ∧ Q w w' := by
  obtain ⟨m, hm⟩ := hv.max
  exact Tryd.strings_Cut s (str sep) m w (by omega) hm

/-- letters alone, so far -/
theorem all_take_succ {l : List UInt8} {k : Nat} {c : UInt8} (h : l[k]? = some c) (ha : (l.take k).all P21.isL = true) (hc : P21.isL c = true) : (l.take (k + 1)).all P21.isL = true := by
  rw [List.take_add_one, h, List.all_append, ha]
  simp [hc]
theorem all_no {l : List UInt8} {k : Nat} {c : UInt8} (h : l[k]? = some c) (hc : P21.isL c = false) : l.all P21.isL = false := by
  cases q : l.all P21.isL with
  | false => rfl
  | true => rw [List.all_eq_true] at q; rw [q c (List.mem_of_getElem? h)] at hc; cases hc
set_option maxRecDepth 100000 in
theorem is_any (s : ByteArray) (w : World) (hs : s.size ≤ 1000000) (hv : Vars w) :
    Calls Tryd.prog 67 #[.string s] w fun e w' => e = .returned (.bool (P21.num (P4.bl s))) ∧ Below w.heap.size w w' := by
  have c1 := nparse_any s w hs hv
  have hn : P21.num (P4.bl s) = decide ((P20.parse (P4.bl s)).2 = 0) := rfl
  rw [hn]
  generalize P20.parse (P4.bl s) = R at c1 ⊢
  obtain ⟨y, e⟩ := R
  go_enter Tryd.func67, Tryd.ntmps67
  go_wp2_with (go_at_call 98; refine c1.mono ?_; rintro e w' ⟨rfl, hb⟩)
  go_ret
  exact ⟨rfl, hb⟩
/-- the closure: no letter -/
theorem odd_pred (w : World) : PredAt Tryd.prog 89 #[] encR (fun r => !P21.isLr r) w := fun W r _ => by
  unfold FnGives
  show Calls _ _ _ _ fun e w' => e = .returned (.bool (!P21.isLr r)) ∧ ∃ q, w' = W.drewN q
  have hR : P21.isLr r = ((decide (65 ≤ r) && decide (r ≤ 90)) || (decide (97 ≤ r) && decide (r ≤ 122))) := rfl
  rw [hR]
  by_cases h1 : 65 ≤ r <;> by_cases h2 : r ≤ 90 <;> by_cases h3 : 97 ≤ r <;> by_cases h4 : r ≤ 122
  all_goals first | (exfalso; omega) | skip
  all_goals
    have i1 : (r : Int) < 65 ↔ r < 65 := by omega
    have i2 : (90 : Int) < (r : Int) ↔ 90 < r := by omega
    have i3 : (r : Int) < 97 ↔ r < 97 := by omega
    have i4 : (122 : Int) < (r : Int) ↔ 122 < r := by omega
    go_enter Tryd.func89, Tryd.ntmps89
    go_wp2_with fail
    go_ret
    exact ⟨by first | (simp [h1, h2, h3, h4]; done) | (simp [h1, h2, h3, h4]; omega), 0, rfl⟩
set_option maxRecDepth 100000 in
theorem idxf_any (s : ByteArray) (w : World) :
    Calls Tryd.prog 88 #[.string s, .func (.func 89) #[] #[]] w fun e w' => e = .returned (.int .i64 (Lib.idxFunc (fun r => !P21.isLr r) true s)) ∧ Below w.heap.size w w' := by
  have c1 := Any.strings_indexFunc Tryd.lays315 89 #[] (enters_of Tryd.func89 (by kernel_rfl) rfl) (fun r => !P21.isLr r) true s w (odd_pred w)
  have c2 : Calls Tryd.prog 106 #[.string s, .func (.func 89) #[] #[], .bool true] w fun e w' => e = .returned (.int .i64 (Lib.idxFunc (fun r => !P21.isLr r) true s)) ∧ Below w.heap.size w w' := c1.mono fun e w' h => ⟨h.1, by first | exact h.2 | exact h.2.1⟩
  clear c1
  generalize Lib.idxFunc (fun r => !P21.isLr r) true s = R at c2 ⊢
  go_enter Tryd.func88, Tryd.ntmps88
  go_wp2_with (go_at_call 106; refine c2.mono ?_; rintro e w' ⟨rfl, hb⟩)
  go_ret
  exact ⟨rfl, hb⟩
end Go.Proofs.YtlideagcmhlkeaaDoor

/- The walks of what stands around %s, and around a slash (chapter 21). -/
namespace Go.Proofs.YtlideagcmhlkeaaDoor
open Go.RowKit Go.Lib
set_option linter.unusedVariables false

theorem cut_len (l sep : List UInt8) : (Lib.cut l sep).1.length + (Lib.cut l sep).2.1.length ≤ l.length := by
  rcases P21.cut_cases l sep with ⟨q, _⟩ | ⟨i, hi, _, _, q⟩
  · rw [q]; simp
  · rw [q]; simp only [List.length_take, List.length_drop]; omega
theorem cat_run {P : Program} (a b : List UInt8) (h : a.length + b.length ≤ 2000000) : ∀ W, (Op.stringOp .add (str a) (str b)).run P W = .ok (.string (str (a ++ b))) W := fun W => by
  rw [run_string_add_sum (w := W) _ _ (by rw [str_size, str_size]; omega), str_append]
set_option maxRecDepth 100000 in
set_option maxHeartbeats 4000000 in
theorem around_any (s : ByteArray) (w : World) (hs : s.size ≤ 1000000) (hv : Vars21 w) :
    Calls Tryd.prog 50 #[.string s] w fun e w' => e = .returned (.tuple #[.string (str (P21.pct (P4.bl s)).1), .string (str (P21.pct (P4.bl s)).2.1), .bool (P21.letter (P4.bl s))]) ∧ Below w.heap.size w w' := by
  have c1 := cut21 s [37, 115] w hs hv
  have hl := cut_len (P4.bl s) [37, 115]
  rw [P4.bl_len] at hl
  have hLt : P21.letter (P4.bl s) = ((Lib.cut (P4.bl s) [37, 115]).2.2 && (((Lib.cut (P4.bl s) [37, 115]).1 ++ (Lib.cut (P4.bl s) [37, 115]).2.1).all P21.isL && decide (((Lib.cut (P4.bl s) [37, 115]).1 ++ (Lib.cut (P4.bl s) [37, 115]).2.1).length ≤ 5))) := rfl
  have hP : P21.pct (P4.bl s) = Lib.cut (P4.bl s) [37, 115] := rfl
  rw [hLt, hP]
  generalize Lib.cut (P4.bl s) [37, 115] = T at c1 hl ⊢
  obtain ⟨a, b, f⟩ := T
  simp only at c1 hl ⊢
  have hcat := cat_run (P := Tryd.prog) a b (by omega)
  have c2 := fun W => idxf_any (str (a ++ b)) W
  have hidx := P21.idx_lt (str (a ++ b))
  rw [str_data] at hidx
  have hsz : (str (a ++ b)).size = (a ++ b).length := str_size _
  generalize (a ++ b).all P21.isL = L at hidx ⊢
  generalize (a ++ b).length = n at hsz ⊢
  generalize Lib.idxFunc (fun r => !P21.isLr r) true (str (a ++ b)) = I at c2 hidx
  generalize str (a ++ b) = AB at hcat c2 hsz
  generalize str a = SA at c1 hcat ⊢
  generalize str b = SB at c1 hcat ⊢
  clear hl hP hLt
  have C1 := Lib.hid c1
  have C2 := Lib.hid c2
  clear c1 c2 hv
  have h5 : (AB.size : Int) ≤ 5 ↔ n ≤ 5 := by omega
  clear hs
  have hI : (I < 0 ∧ L = true) ∨ (¬ I < 0 ∧ L = false) := by
    by_cases q : I < 0
    · rw [decide_eq_true q] at hidx; exact .inl ⟨q, hidx.symm⟩
    · rw [decide_eq_false q] at hidx; exact .inr ⟨q, hidx.symm⟩
  clear hidx
  cases f with
  | false =>
    rcases hI with ⟨q, rfl⟩ | ⟨q, rfl⟩
    all_goals
      go_enter Tryd.func50, Tryd.ntmps50
      go_wp2_with (first | (go_at_call 66; refine C1.out.mono ?_; rintro e w1 ⟨rfl, n1, rfl⟩) | (go_at_call 88; refine (C2.out _).mono ?_; rintro e w2 ⟨rfl, hb2⟩))
      go_ret3
      exact ⟨rfl, (below_drewN (Below.refl w.heap.size w) n1).trans (show Below w.heap.size (w.drewN n1) w2 from hb2)⟩
  | true =>
    rcases hI with ⟨q, rfl⟩ | ⟨q, rfl⟩
    · by_cases hn : n ≤ 5
      all_goals
        go_enter Tryd.func50, Tryd.ntmps50
        go_wp2_with (first | (go_at_call 66; refine C1.out.mono ?_; rintro e w1 ⟨rfl, n1, rfl⟩) | (go_at_call 88; refine (C2.out _).mono ?_; rintro e w2 ⟨rfl, hb2⟩))
        go_ret3
        exact ⟨by first | (simp [hn]; done) | (simp [hn]; omega), (below_drewN (Below.refl w.heap.size w) n1).trans (show Below w.heap.size (w.drewN n1) w2 from hb2)⟩
    · go_enter Tryd.func50, Tryd.ntmps50
      go_wp2_with (first | (go_at_call 66; refine C1.out.mono ?_; rintro e w1 ⟨rfl, n1, rfl⟩) | (go_at_call 88; refine (C2.out _).mono ?_; rintro e w2 ⟨rfl, hb2⟩))
      go_ret3
      exact ⟨rfl, (below_drewN (Below.refl w.heap.size w) n1).trans (show Below w.heap.size (w.drewN n1) w2 from hb2)⟩

end Go.Proofs.YtlideagcmhlkeaaDoor

/- The walk of the reference's letter (chapter 21). -/
namespace Go.Proofs.YtlideagcmhlkeaaDoor
open Go.RowKit Go.Lib
set_option linter.unusedVariables false

end Go.Proofs.YtlideagcmhlkeaaDoor

/- The walk of name.Abbr: the table of the kinds of bytes, made at each call, and the closure that reads it. -/
namespace Go.Proofs.YtlideagcmhlkeaaDoor
open Go.RowKit Go.Lib
set_option linter.unusedVariables false

def kA : Nat → Array Value
  | 0 => Array.replicate 256 (.int .u8 0)
  | k + 1 => ((kA k).setIfInBounds (65 + k) (.int .u8 1)).setIfInBounds (97 + k) (.int .u8 1)
def kD : Nat → Array Value
  | 0 => kA 26
  | k + 1 => (kD k).setIfInBounds (48 + k) (.int .u8 2)
def kAll : Array Value := ((((kD 10).setIfInBounds 95 (.int .u8 4)).setIfInBounds 45 (.int .u8 8)).setIfInBounds 46 (.int .u8 16)).setIfInBounds 43 (.int .u8 16)
def kTab (n : Nat) : Int := if (65 ≤ n ∧ n ≤ 90) ∨ (97 ≤ n ∧ n ≤ 122) then 1 else if 48 ≤ n ∧ n ≤ 57 then 2 else if n = 95 then 4 else if n = 45 then 8 else if n = 46 ∨ n = 43 then 16 else 0
theorem kA_size : ∀ k, (kA k).size = 256
  | 0 => by simp [kA]
  | k + 1 => by rw [kA, Array.size_setIfInBounds, Array.size_setIfInBounds, kA_size k]
theorem kD_size : ∀ k, (kD k).size = 256
  | 0 => kA_size 26
  | k + 1 => by rw [kD, Array.size_setIfInBounds, kD_size k]
theorem kAll_size : kAll.size = 256 := by
  unfold kAll
  rw [Array.size_setIfInBounds, Array.size_setIfInBounds, Array.size_setIfInBounds, Array.size_setIfInBounds, kD_size]
theorem kAll_tab : kAll = (Array.range 256).map fun n => .int .u8 (kTab n) := by kernel_rfl
theorem kAll_at (n : Nat) (h : n < 256) : kAll[n]? = some (.int .u8 (kTab n)) := by
  rw [kAll_tab, Array.getElem?_map, Array.getElem?_range]
  simp [h]
theorem kTab_cases (n : Nat) : (P21.isLr n = true ∧ kTab n = 1) ∨ (P21.isLr n = false ∧ (kTab n = 0 ∨ kTab n = 2 ∨ kTab n = 4 ∨ kTab n = 8 ∨ kTab n = 16)) := by
  unfold P21.isLr kTab
  by_cases h : (65 ≤ n ∧ n ≤ 90) ∨ (97 ≤ n ∧ n ≤ 122)
  · left
    rw [if_pos h]
    simpa using h
  · right
    rw [if_neg h]
    refine ⟨by simp; omega, ?_⟩
    repeat' split
    all_goals simp
theorem kAll_one : kAll.all (·.oneCell') = true := by rw [kAll_tab]; kernel_rfl
theorem kA_succ (k : Nat) : kA (k + 1) = ((kA k).setIfInBounds (65 + k) (.int .u8 1)).setIfInBounds (97 + k) (.int .u8 1) := rfl
theorem kD_succ (k : Nat) : kD (k + 1) = (kD k).setIfInBounds (48 + k) (.int .u8 2) := rfl
theorem kD_zero : kD 0 = kA 26 := rfl
theorem kAll_eq : kAll = ((((kD 10).setIfInBounds 95 (.int .u8 4)).setIfInBounds 45 (.int .u8 8)).setIfInBounds 46 (.int .u8 16)).setIfInBounds 43 (.int .u8 16) := rfl
attribute [irreducible] kA kD kAll
end Go.Proofs.YtlideagcmhlkeaaDoor

/- The walk of name.Abbr: the table of the kinds of bytes, made at each call, and the closure that reads it. -/
namespace Go.Proofs.YtlideagcmhlkeaaDoor
open Go.RowKit Go.Lib
set_option linter.unusedVariables false

theorem kA_get (k n : Nat) (h : n < 256) : ∃ v, (kA k)[n]? = some v := ⟨_, Array.getElem?_eq_getElem (by rw [kA_size]; exact h)⟩
theorem kD_get (k n : Nat) (h : n < 256) : ∃ v, (kD k)[n]? = some v := ⟨_, Array.getElem?_eq_getElem (by rw [kD_size]; exact h)⟩
theorem zeroK : (Tryd.prog.info? 174).map (fun i => (i.zero, i.size)) = some (some (.agg (kA 0)), 256) := by kernel_rfl
theorem below_setB {B : Nat} {w W : World} {p : Addr} (h : Below B w W) (hp : B ≤ p.block) (u : Value) : Below B w (W.setCell p u) := h.trans ⟨rfl, rfl, rfl, by simp [World.setCell], fun j hj => Below.heap_setCell W p u j (by omega)⟩
theorem set_get {cs : Array Value} {n i : Nat} {u : Value} (hn : n < cs.size) : ∃ v, (cs.setIfInBounds i u)[n]? = some v := ⟨_, Array.getElem?_eq_getElem (by rw [Array.size_setIfInBounds]; exact hn)⟩
theorem store_blk {P : Program} {W : World} {B : Nat} {e : TypeId} {cs ds : Array Value} (h : Blk W B e cs) (hn : cs.size = ds.size) (h1 : ds.all (·.oneCell') = true) : (storeCells ⟨B, 0, none⟩ ds.toList 0).run P W = .ok () (W.setRow B ds) := by
  have := run_storeCells_from (P := P) B e ds.toList 0 cs W h (by rw [Array.length_toList]; omega) (fun v hv => by
    rw [← Array.all_toList, List.all_eq_true] at h1; exact h1 v hv)
  simpa using this
theorem blk_setRow {W : World} {B : Nat} {e : TypeId} {cs ds : Array Value} (h : Blk W B e cs) : Blk (W.setRow B ds) B e ds := by
  unfold Blk at h ⊢
  simp [World.setRow, Array.getElem?_modify, h]
set_option maxRecDepth 1000000 in
set_option maxHeartbeats 4000000 in
theorem kinds_any (w : World) :
    Calls Tryd.prog 107 #[] w fun e w' => e = .returned (.agg kAll) ∧ Below w.heap.size w w' := by
  obtain ⟨hz, hi⟩ := zero_of_info zeroK
  have hB0 := Blk.new w 174 (kA 0)
  have hO0 := Blk.newAt (w.alloc (.cells (kA 0) 174)) (w.heap.size + 1) (by simp) 174 (kA 0)
  have hB1 := hB0.alloc (.cells (kA 0) 174)
  have hb1 : Below w.heap.size w ((w.alloc (.cells (kA 0) 174)).alloc (.cells (kA 0) 174)) := ((Below.refl _ _).alloc (Nat.le_refl _) _).alloc (by simp) _
  clear hB0
  go_enter Tryd.func107, Tryd.ntmps107
  go_wp2_with fail
  generalize (w.alloc (.cells (kA 0) 174)).alloc (.cells (kA 0) 174) = W1 at hO0 hB1 hb1
  go_loopw [4] (fun s4 wr => ∃ k : Nat, k ≤ 26 ∧ s4 = .int .i64 (k : Int) ∧ Blk wr (w.heap.size + 1) 174 (kA k) ∧ Blk wr w.heap.size 174 (kA 0) ∧ Below w.heap.size w wr) (fun s4 _ => 26 - (intOf s4).toNat)
  case atStart => exact ⟨0, Nat.zero_le _, rfl, hO0, hB1, hb1⟩
  case round =>
    clear hO0 hB1 hb1
    obtain ⟨k, hk, rfl, hO, hB, hb⟩ := hrel
    by_cases hlt : k < 26
    · have hki : (k : Int) < 26 := by omega
      obtain ⟨v1, hv1⟩ := kA_get k (65 + k) (by omega)
      have c1 : wr.cell? ⟨w.heap.size + 1, 65 + k, none⟩ = some v1 := (hO.cell _).trans hv1
      have f1 := hO.frozen (65 + k)
      have hO2 := hO.set_ (65 + k) (.int .u8 1)
      obtain ⟨v2, hv2⟩ := set_get (cs := kA k) (n := 97 + k) (i := 65 + k) (u := .int .u8 1) (by rw [kA_size]; omega)
      have c2 : (wr.setCell ⟨w.heap.size + 1, 65 + k, none⟩ (.int .u8 1)).cell? ⟨w.heap.size + 1, 97 + k, none⟩ = some v2 := (hO2.cell _).trans hv2
      have f2 := hO2.frozen (97 + k)
      have hO3 := hO2.set_ (97 + k) (.int .u8 1)
      rw [← kA_succ] at hO3
      have hB3 := (hB.far (p := ⟨w.heap.size + 1, 65 + k, none⟩) (by simp) (.int .u8 1)).far (p := ⟨w.heap.size + 1, 97 + k, none⟩) (by simp) (.int .u8 1)
      have hb3 := below_setB (below_setB hb (p := ⟨w.heap.size + 1, 65 + k, none⟩) (Nat.le_succ _) (.int .u8 1)) (p := ⟨w.heap.size + 1, 97 + k, none⟩) (Nat.le_succ _) (.int .u8 1)
      have HO := Lib.hid hO3
      have HB := Lib.hid hB3
      have HBe := Lib.hid hb3
      clear hO hB hb hv1 hv2 hO2 hO3 hB3 hb3
      go_wp2_with fail
      go_roundw
      case rel => exact ⟨k + 1, by omega, by go_num, HO.out, HB.out, HBe.out⟩
      case measure => simp [intOf]; omega
    · obtain rfl : k = 26 := by omega
      rw [← kD_zero] at hO
      go_wp2_with fail
      go_loopw [14] (fun s4 wr => ∃ k : Nat, k ≤ 10 ∧ s4 = .int .i64 (k : Int) ∧ Blk wr (w.heap.size + 1) 174 (kD k) ∧ Blk wr w.heap.size 174 (kA 0) ∧ Below w.heap.size w wr) (fun s4 _ => 10 - (intOf s4).toNat)
      case atStart => exact ⟨0, Nat.zero_le _, rfl, hO, hB, hb⟩
      case round =>
        clear hO hB hb
        obtain ⟨k, hk, rfl, hO, hB, hb⟩ := hrel
        by_cases hlt : k < 10
        · have hki : (k : Int) < 10 := by omega
          obtain ⟨v1, hv1⟩ := kD_get k (48 + k) (by omega)
          have c1 : wr.cell? ⟨w.heap.size + 1, 48 + k, none⟩ = some v1 := (hO.cell _).trans hv1
          have f1 := hO.frozen (48 + k)
          have hO3 := hO.set_ (48 + k) (.int .u8 2)
          rw [← kD_succ] at hO3
          have hB3 := hB.far (p := ⟨w.heap.size + 1, 48 + k, none⟩) (by simp) (.int .u8 2)
          have hb3 := below_setB hb (p := ⟨w.heap.size + 1, 48 + k, none⟩) (Nat.le_succ _) (.int .u8 2)
          have HO := Lib.hid hO3
          have HB := Lib.hid hB3
          have HBe := Lib.hid hb3
          clear hO hB hb hv1 hO3 hB3 hb3
          go_wp2_with fail
          go_roundw
          case rel => exact ⟨k + 1, by omega, by go_num, HO.out, HB.out, HBe.out⟩
          case measure => simp [intOf]; omega
        · obtain rfl : k = 10 := by omega
          have hz10 := kD_size 10
          obtain ⟨v1, hv1⟩ := kD_get 10 95 (by omega)
          have c1 : wr.cell? ⟨w.heap.size + 1, 95, none⟩ = some v1 := (hO.cell _).trans hv1
          have f1 := hO.frozen 95
          have hO1 := hO.set_ 95 (.int .u8 4)
          obtain ⟨v2, hv2⟩ := set_get (cs := kD 10) (n := 45) (i := 95) (u := .int .u8 4) (by omega)
          have c2 := (hO1.cell 45).trans hv2
          have f2 := hO1.frozen 45
          have hO2 := hO1.set_ 45 (.int .u8 8)
          obtain ⟨v3, hv3⟩ := set_get (cs := (kD 10).setIfInBounds 95 (.int .u8 4)) (n := 46) (i := 45) (u := .int .u8 8) (by rw [Array.size_setIfInBounds]; omega)
          have c3 := (hO2.cell 46).trans hv3
          have f3 := hO2.frozen 46
          have hO3 := hO2.set_ 46 (.int .u8 16)
          obtain ⟨v4, hv4⟩ := set_get (cs := ((kD 10).setIfInBounds 95 (.int .u8 4)).setIfInBounds 45 (.int .u8 8)) (n := 43) (i := 46) (u := .int .u8 16) (by rw [Array.size_setIfInBounds, Array.size_setIfInBounds]; omega)
          have c4 := (hO3.cell 43).trans hv4
          have f4 := hO3.frozen 43
          have hO4 := hO3.set_ 43 (.int .u8 16)
          rw [← kAll_eq] at hO4
          have hB4 := (((hB.far (p := ⟨w.heap.size + 1, 95, none⟩) (by simp) (.int .u8 4)).far (p := ⟨w.heap.size + 1, 45, none⟩) (by simp) (.int .u8 8)).far (p := ⟨w.heap.size + 1, 46, none⟩) (by simp) (.int .u8 16)).far (p := ⟨w.heap.size + 1, 43, none⟩) (by simp) (.int .u8 16)
          have hb4 := below_setB (below_setB (below_setB (below_setB hb (p := ⟨w.heap.size + 1, 95, none⟩) (Nat.le_succ _) (.int .u8 4)) (p := ⟨w.heap.size + 1, 45, none⟩) (Nat.le_succ _) (.int .u8 8)) (p := ⟨w.heap.size + 1, 46, none⟩) (Nat.le_succ _) (.int .u8 16)) (p := ⟨w.heap.size + 1, 43, none⟩) (Nat.le_succ _) (.int .u8 16)
          have HO := Lib.hid hO4
          have HB := Lib.hid hB4
          have HBe := Lib.hid hb4
          clear hO hO1 hO2 hO3 hO4 hB hB4 hb hb4 hv1 hv2 hv3 hv4 hz10
          go_wp2_with fail
          generalize (((wr.setCell ⟨w.heap.size + 1, 95, none⟩ (.int .u8 4)).setCell ⟨w.heap.size + 1, 45, none⟩ (.int .u8 8)).setCell ⟨w.heap.size + 1, 46, none⟩ (.int .u8 16)).setCell ⟨w.heap.size + 1, 43, none⟩ (.int .u8 16) = W5 at HO HB HBe ⊢
          have hks := kAll_size
          have hsc : (storeCells ⟨w.heap.size, 0, none⟩ kAll.toList 0).run Tryd.prog W5 = .ok () (W5.setRow w.heap.size kAll) := store_blk HB.out (by rw [kA_size, kAll_size]) kAll_one
          refine wp_load_row _ _ rfl (w.heap.size + 1) rfl _ kAll (0, 0) _ HO.out Tryd.underlying174 rfl (by rw [kAll_size]; exact hi) ?_
          go_wp2_with fail
          (try simp only [Exit.inBlock, Exit.then])
          refine bodyPost_ret (v := .agg kAll) ?_ rfl ⟨rfl, below_setRow HBe.out (Nat.le_refl _) _⟩
          exact results_cell_row rfl _ _ w.heap.size _ kAll (0, 0) _ rfl (blk_setRow HB.out) Tryd.underlying174 rfl (by rw [kAll_size]; exact hi)
end Go.Proofs.YtlideagcmhlkeaaDoor
