/- Texts of one proof, one behind the other: Copy28; Plain32e; Set32; Copy28w; Shp32; Open20; Rep32d. -/
import Derived.Test.YtlideagcmhlkeaaDoorV1
import Derived.Deep.RegionLaw
import Derived.RowKit
import Derived.Deep.Slices
import Derived.Deep.Fields
import Derived.ChangeSame
import Derived.WideShapes
import Derived.BigRegion
import Derived.BigQuiet
import Derived.Deep.QuietTactic

/- Copy of the reference of chapter 28: new memory throughout. -/
namespace Go.Proofs.YtlideagcmhlkeaaDoor
open Go.RowKit
set_option linter.unusedVariables false
set_option linter.unusedSimpArgs false

/-- the boxes of the copy: the source, the result, what is copied so far -/
structure Box28 (w W : World) (s : SV) (r z k h : Value) : Prop where
  src : Blk W w.heap.size 32 #[.slice s.rA s.rules.length s.rc, .slice s.zA s.zones.length s.zc, .slice s.kA s.links.length s.kc, .slice s.hA s.shifts.length s.hc]
  res : Blk W (w.heap.size + 1) 32 #[.slice none 0 0, .slice none 0 0, .slice none 0 0, .slice none 0 0]
  own : Blk W (w.heap.size + 1 + 1) 32 #[r, z, k, h]
  bel : Below w.heap.size w W
theorem Box28.below {w W W' : World} {s : SV} {r z k h : Value} (b : Box28 w W s r z k h) (hb : Below W.heap.size W W') : Box28 w W' s r z k h := ⟨b.src.below hb b.src.lt, b.res.below hb b.res.lt, b.own.below hb b.own.lt, b.bel.trans (hb.mono b.bel.size)⟩
theorem Box28.set_ {w W : World} {s : SV} {r z k h : Value} (b : Box28 w W s r z k h) (j : Nat) (u : Value) {r' z' k' h' : Value} (e : #[r, z, k, h].setIfInBounds j u = #[r', z', k', h']) : Box28 w (W.setCell ⟨w.heap.size + 1 + 1, j, none⟩ u) s r' z' k' h' :=
  ⟨b.src.far (by simp; omega) u, b.res.far (by simp) u, e ▸ b.own.set_ j u, b.bel.setCell (by simp; omega) u⟩
theorem box28_new (w : World) (s : SV) : Box28 w (((w.alloc (.cells #[.slice s.rA s.rules.length s.rc, .slice s.zA s.zones.length s.zc, .slice s.kA s.links.length s.kc, .slice s.hA s.shifts.length s.hc] 32)).alloc (.cells #[.slice none 0 0, .slice none 0 0, .slice none 0 0, .slice none 0 0] 32)).alloc (.cells #[.slice none 0 0, .slice none 0 0, .slice none 0 0, .slice none 0 0] 32)) s (.slice none 0 0) (.slice none 0 0) (.slice none 0 0) (.slice none 0 0) :=
  ⟨((Blk.new w _ _).alloc _).alloc _, (Blk.newAt _ (w.heap.size + 1) (by simp) _ _).alloc _, Blk.newAt _ (w.heap.size + 1 + 1) (by simp) _ _, ((((Below.refl _ w).alloc (Nat.le_refl _) _).alloc (by simp) _).alloc (by simp; omega) _)⟩
theorem Box28.grown {w W W' : World} {s : SV} {r z k h : Value} {e2 : TypeId} {n2 s2 : Nat} {v2 : Value} {x2 : List Value} (b : Box28 w W s r z k h) (q : W.ownsRow (w.heap.size + 3) e2 s2 v2 n2 x2) (hg : W.grownBy W' v2.ownBlock) : Box28 w W' s r z k h :=
  ⟨blk_grown b.src q hg (by omega), blk_grown b.res q hg (by omega), blk_grown b.own q hg (by omega), own_grown b.bel q hg b.bel.size (by omega)⟩
set_option maxRecDepth 100000 in
set_option maxHeartbeats 8000000 in
theorem copy28 (s : SV) (w : World) (hS : SrcIn w s) (hf : few s) :
    Calls Tryd.prog 41 #[.agg #[.slice s.rA s.rules.length s.rc, .slice s.zA s.zones.length s.zc, .slice s.kA s.links.length s.kc, .slice s.hA s.shifts.length s.hc]] w fun e W => ∃ t : SV, e = .returned (.agg #[.slice t.rA t.rules.length t.rc, .slice t.zA t.zones.length t.zc, .slice t.kA t.links.length t.kc, .slice t.hA t.shifts.length t.hc]) ∧ CopyOf W w.heap.size s t ∧ Below w.heap.size w W := by
  have HS := Lib.hid hS; have HF := Lib.hid hf
  clear hS hf
  obtain ⟨i0, hi, hz0, hz1, hz2⟩ := info_parts infoRuleC
  have hB := box28_new w s
  have hsz : (((w.alloc (.cells #[.slice s.rA s.rules.length s.rc, .slice s.zA s.zones.length s.zc, .slice s.kA s.links.length s.kc, .slice s.hA s.shifts.length s.hc] 32)).alloc (.cells #[.slice none 0 0, .slice none 0 0, .slice none 0 0, .slice none 0 0] 32)).alloc (.cells #[.slice none 0 0, .slice none 0 0, .slice none 0 0, .slice none 0 0] 32)).heap.size = w.heap.size + 3 := by simp
  have HB := Lib.hid hB; have HSZ := Lib.hid hsz
  have HIN := Lib.hid (in_news len_rule (by decide) (HS.out.rules.below (HB.out.bel)))
  clear hB hsz
  go_enter Tryd.func41, Tryd.ntmps41
  go_wp2_with (at_builtin; refine wpList_append_copy rfl _ _ 27 rfl (w.heap.size + 3) 83 i0 _ 11 104 Tryd.underlying27 hi hz0 hz1 hz2 rfl (by decide) rfl s.rA s.rules.length s.rc (s.rules.flatMap RV.cells) rfl (fl_len len_rule _) HIN.out (one_fl one_rule _) (by have := HF.out.1; simp only [maxLen]; omega) (by have := HF.out.1; omega) (by rw [HSZ.out]; exact Nat.le_refl _) ?_)
  intro rA rc wa hown hgr
  have hbl := grown_below hgr
  have HR := Lib.hid (show RowOf wa (w.heap.size + 3) 83 11 RV.cells rA rc s.rules from hown)
  have HB1 := Lib.hid (HB.out.below hbl)
  have c0 := (HB1.out.own.cell 0).trans rfl
  have f0 := HB1.out.own.frozen 0
  have HB2 := Lib.hid (HB1.out.set_ 0 (.slice rA s.rules.length rc) rfl)
  have HR2 := Lib.hid (show RowOf (wa.setCell ⟨w.heap.size + 1 + 1, 0, none⟩ (.slice rA s.rules.length rc)) (w.heap.size + 3) 83 11 RV.cells rA rc s.rules from own_farj HR.out _ 0 (by omega) _)
  have hle : s.zones.length ≤ 10 := HF.out.2.1
  have hle2 : (s.zones.length : Int) ≤ 10 := by omega
  clear hown hgr hbl HIN HSZ HB hi hz0 hz1 hz2 HR HB1
  go_wp2_with fail
  clear c0 f0
  go_loopw [4] (fun i W => ∃ k : Nat, k ≤ s.zones.length ∧ i = .int .i64 k ∧ ∃ zA zc Y, Box28 w W s (.slice rA s.rules.length rc) (.slice zA (List.length Y) zc) (.slice none 0 0) (.slice none 0 0) ∧ RowOf W (w.heap.size + 3) 83 11 RV.cells rA rc s.rules ∧ RowOf W (w.heap.size + 3) 39 2 ZV.cells zA zc Y ∧ ZonesIn W (w.heap.size + 3) (s.zones.take k) Y) (fun i _ => s.zones.length - (intOf i).toNat)
  case atStart => exact ⟨0, Nat.zero_le _, rfl, none, 0, [], HB2.out, HR2.out, World.ownsRow_nil .., ⟨rfl, fun i z y h => by simp at h⟩, fun i y h => by simp at h, fun i j y z _ h => by simp at h⟩
  case round =>
    clear HB2 HR2
    obtain ⟨k, hk, rfl, zA, zc, Y, hbx, hrr, hrz, hzi⟩ := hrel
    have c1 := (hbx.src.cell 1).trans rfl
    have HBX := Lib.hid hbx; have HRR := Lib.hid hrr; have HRZ := Lib.hid hrz; have HZI := Lib.hid hzi
    clear hbx hrr hrz hzi
    by_cases hlt : k < s.zones.length
    · have hki : (k : Int) < (s.zones.length : Int) := by omega
      have hk0 : (0 : Int) ≤ (k : Int) := by omega
      obtain ⟨z, hz⟩ : ∃ z, s.zones[k]? = some z := ⟨_, List.getElem?_eq_getElem hlt⟩
      obtain ⟨gz, oz, hzA, hgz, haz⟩ := (HS.out.zones.below HBX.out.bel) k z hz
      rw [hzA] at c1
      have n0 : wr.cell? ⟨gz, oz + k * 2, none⟩ = some (.string z.name) := haz 0 _ rfl
      have n1 : wr.cell? ⟨gz, oz + k * 2 + 1, none⟩ = some (.slice z.A z.eras.length z.c) := haz 1 _ rfl
      have HER := Lib.hid ((HS.out.eras z (List.mem_of_getElem? hz)).below HBX.out.bel)
      have HE20 := Lib.hid (HF.out.2.2.2.2 z (List.mem_of_getElem? hz))
      have HKZ := Lib.hid hz; have HZA := Lib.hid hzA
      have hlt2 := Lib.hid hlt
      have hws : w.heap.size < wr.heap.size := HBX.out.src.lt
      have HNW := Lib.hid (fun W (h : Below wr.heap.size wr W) => in_news len_era (by decide) (HER.out.below h))
      have nb := Blk.new wr 39 #[.string z.name, .slice none 0 0]
      have HNB := Lib.hid nb
      have b1 := (nb.cell 1).trans rfl
      have hal := (Below.refl wr.heap.size wr).alloc (Nat.le_refl _) (.cells #[.string z.name, .slice none 0 0] 39)
      have HAL := Lib.hid hal
      have m1 := (hal.cell (p := ⟨gz, oz + k * 2 + 1, none⟩) hgz).trans n1
      have d1 := (hal.cell (p := ⟨w.heap.size, 1, none⟩) hws).trans c1
      obtain ⟨i1, hi, hz0, hz1, hz2⟩ := info_parts infoEra
      clear haz hz hlt hzA nb hal
      go_wp2_with fail
      go_region_law (first | (refine step_append_copy (by rfl) _ _ _ (by rfl) (wr.heap.size + 1) 47 i1 _ 13 120 Tryd.underlying37 hi hz0 hz1 hz2 rfl (by decide) (by rfl) z.A z.eras.length z.c (z.eras.flatMap EV.cells) (by rfl) (fl_len len_era _) (HNW.out _ (by first | exact HAL.out | exact HAL.out.drew | exact below_drewN HAL.out _)) (one_fl one_era _) (by have := HE20.out; simp only [maxLen]; omega) (by have := HE20.out; omega) (by simp) ?_; intro eA ec wb hown hgr; have hbl := grown_below hgr; have b2 := (((blk_drew1 HNB.out).below hbl (by simp)).cell 1).trans rfl; have f2 := ((blk_drew1 HNB.out).below hbl (by simp)).frozen 1))
      all_goals
        have hfin := ((HAL.out.drew).trans (hbl.mono (by simp))).setCell (p := ⟨wr.heap.size, 1, none⟩) (Nat.le_refl _) (.slice eA z.eras.length ec)
        have hrow := own_farj hown wr.heap.size 1 (by omega) (.slice eA z.eras.length ec)
        have hzb := ((blk_drew1 HNB.out).below hbl (by simp)).set_ 1 (.slice eA z.eras.length ec)
        have HFIN := Lib.hid hfin; have HROW := Lib.hid hrow; have HZB := Lib.hid hzb
        clear hbl hown hgr b1 b2 f2 m1 d1 n0 n1 c1 HNB HAL HNW HER hi hz0 hz1 hz2 hfin hrow hzb
      all_goals
        generalize wb.setCell ⟨wr.heap.size, 1, none⟩ (.slice eA z.eras.length ec) = W5 at HFIN HROW HZB ⊢
        have HSIZ := Lib.hid (show w.heap.size + 3 ≤ wr.heap.size from HBX.out.own.lt)
        have hb5 := HBX.out.below HFIN.out
        have HB5 := Lib.hid hb5
        have HRR5 := Lib.hid (HRR.out.below HFIN.out)
        have HZI5 := Lib.hid (zones_snoc HZI.out HKZ.out HFIN.out HSIZ.out HROW.out)
        have hal := (Below.refl W5.heap.size W5).alloc (Nat.le_refl _) (.cells #[.string z.name, .slice eA z.eras.length ec] 39)
        have HO := Lib.hid ((HRZ.out.below HFIN.out).below hal)
        have HAL := Lib.hid hal
        have HNB2 := Lib.hid (Blk.new W5 39 #[.string z.name, .slice eA z.eras.length ec])
        have HYL : Hid (Y.length ≤ 10) := Lib.hid (by have h1 := HZI.out.same.1; rw [List.length_take] at h1; omega)
        have z0 := (HZB.out.cell 0).trans rfl
        have z1 := (HZB.out.cell 1).trans rfl
        have o1 := (hb5.own.cell 1).trans rfl
        obtain ⟨i2, hi, hz0, hz1, hz2⟩ := info_parts infoZone
        have HSB := Lib.hid (show w.heap.size + 3 ≤ (W5.alloc (.cells #[.string z.name, .slice eA z.eras.length ec] 39)).heap.size by have h1 := HSIZ.out; have h2 := HFIN.out.size; simp; omega)
        clear hb5 hal HBX HRR HRZ HZI HZB HROW HFIN HKZ
        go_wp2_with (at_builtin; refine wpList_append_own _ rfl _ _ 28 rfl (w.heap.size + 3) 39 i2 _ 2 40 Tryd.underlying28 hi hz0 hz1 hz2 rfl (by decide) _ _ _ rfl HO.out ⟨W5.heap.size, 0, none⟩ 1 1 [.string z.name, .slice eA z.eras.length ec] rfl rfl (blk_cells HNB2.out) (by simp [Value.oneCell']) (by have := HYL.out; simp only [maxLen]; omega) (by have := HYL.out; omega) HSB.out ?_)
        intro v1 W6 hown hgr hne
        obtain ⟨zA', zc', rfl⟩ := row_is hown
        have HB6 := Lib.hid ((HB5.out.below HAL.out).grown HO.out hgr)
        have HRR6 := Lib.hid (show RowOf W6 (w.heap.size + 3) 83 11 RV.cells rA rc s.rules from row_other (HRR5.out.below HAL.out) HO.out (by decide) hgr)
        have HZI6 := Lib.hid ((HZI5.out.below HAL.out).other HO.out (by decide) hgr)
        have HRZ6 := Lib.hid (show RowOf W6 (w.heap.size + 3) 39 2 ZV.cells zA' zc' (Y ++ [⟨z.name, eA, ec, z.eras⟩]) from by
          unfold RowOf
          rw [List.length_append, List.flatMap_append]
          exact hown)
        have o2 := (HB6.out.own.cell 1).trans rfl
        have f2 := HB6.out.own.frozen 1
        clear hown hgr hne HO HAL HNB2 HYL HSB HB5 HRR5 HZI5 z0 z1 o1
        go_wp2_with fail
        go_roundw
        case rel => exact ⟨k + 1, by have := hlt2.out; omega, by go_num, zA', zc', Y ++ ([⟨z.name, eA, ec, z.eras⟩] : List ZV), HB6.out.set_ 1 _ (by rw [List.length_append]; rfl), HRR6.out.farj _ 1 (by omega) _, HRZ6.out.farj _ 1 (by omega) _, HZI6.out.farj _ 1 (by omega) _⟩
        case measure => have := hlt2.out; simp [intOf]; omega
    · obtain rfl : k = s.zones.length := by omega
      have hzi := HZI.out
      rw [List.take_length] at hzi
      have HZ := Lib.hid hzi
      have HSB := Lib.hid (show w.heap.size + 3 ≤ wr.heap.size from HBX.out.own.lt)
      have s2 := (HBX.out.src.cell 2).trans rfl
      have o2 := (HBX.out.own.cell 2).trans rfl
      have HIN := Lib.hid (in_news len_link (by decide) (HS.out.links.below (HBX.out.bel)))
      obtain ⟨i1, hi, hz0, hz1, hz2⟩ := info_parts infoLink
      clear hzi HZI
      go_wp2_with (at_builtin; refine wpList_append_copy rfl _ _ 29 rfl (w.heap.size + 3) 94 i1 _ 2 32 Tryd.underlying29 hi hz0 hz1 hz2 rfl (by decide) rfl s.kA s.links.length s.kc (s.links.flatMap KV.cells) rfl (fl_len len_link _) HIN.out (one_fl one_link _) (by have := HF.out.2.2.1; simp only [maxLen]; omega) (by have := HF.out.2.2.1; omega) HSB.out ?_)
      intro kA kc wl hown hgr
      have hbl := grown_below hgr
      have hb2 := HBX.out.below hbl
      have c2 := (hb2.own.cell 2).trans rfl
      have f2 := hb2.own.frozen 2
      have HBL := Lib.hid (hb2.set_ 2 (.slice kA s.links.length kc) rfl)
      have HRL := Lib.hid ((HRR.out.below hbl).farj (w.heap.size + 1 + 1) 2 (by omega) (.slice kA s.links.length kc))
      have HZL := Lib.hid ((HZ.out.below hbl).farj (w.heap.size + 1 + 1) 2 (by omega) (.slice kA s.links.length kc))
      have HYL := Lib.hid ((HRZ.out.below hbl).farj (w.heap.size + 1 + 1) 2 (by omega) (.slice kA s.links.length kc))
      have HKL := Lib.hid ((show RowOf wl (w.heap.size + 3) 94 2 KV.cells kA kc s.links from hown).farj (w.heap.size + 1 + 1) 2 (by omega) (.slice kA s.links.length kc))
      have HSL := Lib.hid (show w.heap.size + 3 ≤ (wl.setCell ⟨w.heap.size + 1 + 1, 2, none⟩ (.slice kA s.links.length kc)).heap.size from HBL.out.own.lt)
      have HIL := Lib.hid (in_news (f := fun b : ByteArray => [Value.string b]) (m := 1) (fun _ => rfl) (by decide) (HS.out.shifts.below (HBL.out.bel)))
      have s3 := (HBL.out.src.cell 3).trans rfl
      have o3 := (HBL.out.own.cell 3).trans rfl
      have HL1 := Lib.hid (fl_len (f := fun b : ByteArray => [Value.string b]) (m := 1) (fun _ => rfl) s.shifts)
      have H1S := Lib.hid (one_fl (f := fun b : ByteArray => [Value.string b]) (fun a u hu => by rw [List.mem_singleton.1 hu]; rfl) s.shifts)
      obtain ⟨i3, hi3, hy0, hy1, hy2⟩ := info_parts infoStrC
      clear hown hgr hbl hb2 HIN HSB HBX HRR HRZ HZ s2 o2 hi hz0 hz1 hz2 c1
      go_wp2_with (at_builtin; refine wpList_append_copy rfl _ _ 30 rfl (w.heap.size + 3) 9 i3 _ 1 16 Tryd.underlying30 hi3 hy0 hy1 hy2 rfl (by decide) rfl s.hA s.shifts.length s.hc (s.shifts.flatMap fun b : ByteArray => [Value.string b]) rfl HL1.out HIL.out H1S.out (by have := HF.out.2.2.2.1; simp only [maxLen]; omega) (by have := HF.out.2.2.2.1; omega) HSL.out ?_)
      intro hA hc wh hown hgr
      have hbl := grown_below hgr
      have hb2 := HBL.out.below hbl
      have c3 := (hb2.own.cell 3).trans rfl
      have f3 := hb2.own.frozen 3
      have HBH := Lib.hid (hb2.set_ 3 (.slice hA s.shifts.length hc) rfl)
      have HRH := Lib.hid ((HRL.out.below hbl).farj (w.heap.size + 1 + 1) 3 (by omega) (.slice hA s.shifts.length hc))
      have HZH := Lib.hid ((HZL.out.below hbl).farj (w.heap.size + 1 + 1) 3 (by omega) (.slice hA s.shifts.length hc))
      have HYH := Lib.hid ((HYL.out.below hbl).farj (w.heap.size + 1 + 1) 3 (by omega) (.slice hA s.shifts.length hc))
      have HKH := Lib.hid ((HKL.out.below hbl).farj (w.heap.size + 1 + 1) 3 (by omega) (.slice hA s.shifts.length hc))
      have HHH := Lib.hid ((show RowOf wh (w.heap.size + 3) 9 1 (fun b : ByteArray => [Value.string b]) hA hc s.shifts from hown).farj (w.heap.size + 1 + 1) 3 (by omega) (.slice hA s.shifts.length hc))
      have p0 := (HBH.out.own.cell 0).trans rfl
      have p1 := (HBH.out.own.cell 1).trans rfl
      have p2 := (HBH.out.own.cell 2).trans rfl
      have p3 := (HBH.out.own.cell 3).trans rfl
      have r0 := (HBH.out.res.cell 0).trans rfl
      have r1 := (HBH.out.res.cell 1).trans rfl
      have r2 := (HBH.out.res.cell 2).trans rfl
      have r3 := (HBH.out.res.cell 3).trans rfl
      have g0 := HBH.out.res.frozen 0
      have g1 := HBH.out.res.frozen 1
      have g2 := HBH.out.res.frozen 2
      have g3 := HBH.out.res.frozen 3
      clear hown hgr hbl hb2 HIL HSL HBL HRL HYL HZL HKL s3 o3 hi3 hy0 hy1 hy2 c2 f2
      have HRES := Lib.hid ((((HBH.out.res.set_ 0 (.slice rA s.rules.length rc)).set_ 1 (.slice zA Y.length zc)).set_ 2 (.slice kA s.links.length kc)).set_ 3 (.slice hA s.shifts.length hc))
      have k0 := (HRES.out.cell 0).trans rfl
      have k1 := (HRES.out.cell 1).trans rfl
      have k2 := (HRES.out.cell 2).trans rfl
      have k3 := (HRES.out.cell 3).trans rfl
      go_wp2_with fail
      refine bodyPost_ret (v := .agg #[.slice rA s.rules.length rc, .slice zA Y.length zc, .slice kA s.links.length kc, .slice hA s.shifts.length hc]) (by simp [results, Tryd.results41, go_sem, k0, k1, k2, k3]) rfl ?_
      refine ⟨⟨rA, rc, s.rules, zA, zc, Y, kA, kc, s.links, hA, hc, s.shifts⟩, rfl, ?_, ?_⟩
      · have st := fun {α : Type} {e : TypeId} {m : Nat} {f : α → List Value} {A : Option Addr} {c : Nat} {L : List α} (h : RowOf (wh.setCell ⟨w.heap.size + 1 + 1, 3, none⟩ (.slice hA s.shifts.length hc)) (w.heap.size + 3) e m f A c L) => ((((h.farj (w.heap.size + 1) 0 (by omega) (.slice rA s.rules.length rc)).farj (w.heap.size + 1) 1 (by omega) (.slice zA Y.length zc)).farj (w.heap.size + 1) 2 (by omega) (.slice kA s.links.length kc)).farj (w.heap.size + 1) 3 (by omega) (.slice hA s.shifts.length hc))
        exact ⟨⟨rfl, own_base (st HRH.out) (by omega)⟩, ⟨own_base (st HYH.out) (by omega), ((((HZH.out.farj (w.heap.size + 1) 0 (by omega) (.slice rA s.rules.length rc)).farj (w.heap.size + 1) 1 (by omega) (.slice zA Y.length zc)).farj (w.heap.size + 1) 2 (by omega) (.slice kA s.links.length kc)).farj (w.heap.size + 1) 3 (by omega) (.slice hA s.shifts.length hc)).base_le (by omega)⟩, ⟨rfl, own_base (st HKH.out) (by omega)⟩, ⟨rfl, own_base (st HHH.out) (by omega)⟩⟩
      · exact (((HBH.out.bel.setCell (p := ⟨w.heap.size + 1, 0, none⟩) (by simp) _).setCell (p := ⟨w.heap.size + 1, 1, none⟩) (by simp) _).setCell (p := ⟨w.heap.size + 1, 2, none⟩) (by simp) _).setCell (p := ⟨w.heap.size + 1, 3, none⟩) (by simp) _
end Go.Proofs.YtlideagcmhlkeaaDoor

/- Sources that are changed in some places, and what differs then (ReportAgain). No function of the program. -/
namespace Go.Proofs.YtlideagcmhlkeaaDoor.P32
open Go.Proofs.YtlideagcmhlkeaaDoor Go.RowKit
set_option linter.unusedVariables false

theorem diffR_self (a : RV) : diffR a a = 0 := by simp [diffR]
theorem diffE_self (a : EV) : diffE a a = 0 := by simp [diffE]
theorem sameR_symm (a b : RV) : sameR a b = sameR b a := by unfold sameR; simp only [eq_comm]
theorem sameE_symm (a b : EV) : sameE a b = sameE b a := by unfold sameE; simp only [eq_comm]
theorem sameR_self (a : RV) : sameR a a = true := by simp [sameR]
theorem sameE_self (a : EV) : sameE a a = true := by simp [sameE]
/-- only the first k elements count -/
theorem ch_congr {α : Type} {diff : α → α → Int} {mk : Nat → Int → CV} {A B B' : List α} {k : Nat} (h : ∀ i, i < k → B[i]? = B'[i]?) : ch diff mk A B k = ch diff mk A B' k := by
  induction k with
  | zero => rfl
  | succ k ih =>
    have e := ih (fun i hi => h i (by omega))
    unfold ch at e ⊢
    rw [List.range_succ, List.filterMap_append, List.filterMap_append, e]
    congr 1
    simp only [List.filterMap_cons, List.filterMap_nil, h k (by omega)]
theorem ch_set {α : Type} (diff : α → α → Int) (mk : Nat → Int → CV) (A B : List α) (k : Nat) (y : α) : ch diff mk A (B.set k y) k = ch diff mk A B k :=
  ch_congr fun i hi => by rw [List.getElem?_set_ne (by omega)]
theorem okAll_symm {α : Type} {same : α → α → Bool} (hs : ∀ a b, same a b = same b a) {A B : List α} (h : okAll same A B) : okAll same B A :=
  ⟨h.1.symm, fun i a b hi ha hb => by rw [hs]; exact h.2 i b a (by rw [h.1]; exact hi) hb ha⟩
theorem okS_symm {a b : SV} (h : okS a b) : okS b a :=
  ⟨okAll_symm sameR_symm h.1, h.2.1.symm, fun i z y hi hz hy => by
    have q := h.2.2.1 i y z (by rw [h.2.1]; exact hi) hy hz
    exact ⟨q.1.symm, okAll_symm sameE_symm q.2⟩, h.2.2.2.symm⟩
end Go.Proofs.YtlideagcmhlkeaaDoor.P32

/- A copy that is changed in place while a row of changes grows (ReportAgain). No walk. -/
namespace Go.Proofs.YtlideagcmhlkeaaDoor
open Go.RowKit
set_option linter.unusedVariables false

theorem CopyOf.below32 {W W' : World} {base : Nat} {s t : SV} (h : CopyOf W base s t) (hb : Below W.heap.size W W') : CopyOf W' base s t :=
  ⟨⟨h.rules.1, h.rules.2.below hb⟩, ⟨h.zones.1.below hb, h.zones.2.below hb⟩, ⟨h.links.1, h.links.2.below hb⟩, ⟨h.shifts.1, h.shifts.2.below hb⟩⟩
theorem CopyOf.self32 {W : World} {base : Nat} {s t : SV} (h : CopyOf W base s t) : CopyOf W base t t :=
  ⟨⟨rfl, h.rules.2⟩, ⟨h.zones.1, ⟨⟨rfl, fun i z y hz hy => by rw [hz] at hy; injection hy with hy; subst hy; exact ⟨rfl, rfl⟩⟩, h.zones.2.eras, h.zones.2.apart⟩⟩, ⟨rfl, h.links.2⟩, ⟨rfl, h.shifts.2⟩⟩
/-- the source with another era at a place -/
def SV.setEra32 (t : SV) (i : Nat) (z : ZV) (k : Nat) (e : EV) : SV := { t with zones := t.zones.set i { z with eras := z.eras.set k e } }
theorem own_setOff32 {W : World} {base n size B j : Nat} {e : TypeId} {v : Value} {xs : List Value} (h : W.ownsRow base e size v n xs) (hB : v.ownBlock ≠ some B) (u : Value) : (W.setCell ⟨B, j, none⟩ u).ownsRow base e size v n xs := by
  refine ⟨h.1, ?_⟩
  rcases h.2 with q | ⟨g, cap, cur, hv, hb, hh, hr⟩
  · exact .inl q
  · refine .inr ⟨g, cap, cur, hv, hb, (Below.heap_setCell W _ u g (fun e => hB ?_)).trans hh, hr⟩
    rw [hv]
    show some g = some B
    rw [show g = B from e]
theorem zcells_set32 : ∀ {Z : List ZV} {i : Nat} {z z' : ZV}, Z[i]? = some z → z'.cells = z.cells → (Z.set i z').flatMap ZV.cells = Z.flatMap ZV.cells
  | [], i, z, z', h, _ => by simp at h
  | a :: Z, 0, z, z', h, hc => by
    simp only [List.getElem?_cons_zero, Option.some.injEq] at h
    subst h
    rw [List.set_cons_zero, List.flatMap_cons, List.flatMap_cons, hc]
  | a :: Z, i + 1, z, z', h, hc => by
    simp only [List.getElem?_cons_succ] at h
    rw [List.set_cons_succ, List.flatMap_cons, List.flatMap_cons, zcells_set32 h hc]
theorem set_from32 {Z : List ZV} {i a : Nat} {z z' y : ZV} (hz : Z[i]? = some z) (hA : z'.A = z.A) (h : (Z.set i z')[a]? = some y) : ∃ x, Z[a]? = some x ∧ x.A = y.A := by
  by_cases hi : i = a
  · subst hi
    rw [List.getElem?_set_self (List.getElem?_eq_some_iff.1 hz).1] at h
    injection h with h
    subst h
    exact ⟨z, hz, hA.symm⟩
  · rw [List.getElem?_set_ne hi] at h
    exact ⟨y, h, rfl⟩
/-- one cell of an era is stored -/
theorem CopyOf.setCell32 {W : World} {base : Nat} {t : SV} (h : CopyOf W base t t) {i : Nat} {z : ZV} (hz : t.zones[i]? = some z) {g : Nat} (hA : z.A = some ⟨g, 0, none⟩) {k j : Nat} {x y : EV} (hk : z.eras[k]? = some x) (u : Value) (hj : j < 13) (hy : y.cells = x.cells.set j u) :
    CopyOf (W.setCell ⟨g, k * 13 + j, none⟩ u) base (t.setEra32 i z k y) (t.setEra32 i z k y) := by
  have hrow := h.zones.2.eras i z hz
  rw [hA] at hrow
  have hO : (Value.slice (some ⟨g, 0, none⟩) z.eras.length z.c).ownBlock = some g := rfl
  refine ⟨⟨rfl, row_set_other h.rules.2 hrow hO (by decide) u⟩, ⟨?_, ⟨⟨rfl, fun i z y hz hy => by rw [hz] at hy; injection hy with hy; subst hy; exact ⟨rfl, rfl⟩⟩, fun a y' hy' => ?_, fun a b y' z' hab hya hzb g' h1 h2 => ?_⟩⟩, ⟨rfl, row_set_other h.links.2 hrow hO (by decide) u⟩, ⟨rfl, row_set_other h.shifts.2 hrow hO (by decide) u⟩⟩
  · show RowOf _ base 39 2 ZV.cells t.zA t.zc (t.zones.set i _)
    unfold RowOf
    rw [List.length_set, zcells_set32 hz (by unfold ZV.cells; rw [List.length_set])]
    exact row_set_other h.zones.1 hrow hO (by decide) u
  · show RowOf _ base 47 13 EV.cells y'.A y'.c y'.eras
    have hy'' : (t.zones.set i { z with eras := z.eras.set k y })[a]? = some y' := hy'
    by_cases hi : i = a
    · subst hi
      rw [List.getElem?_set_self (List.getElem?_eq_some_iff.1 hz).1] at hy''
      injection hy'' with hy''
      subst hy''
      show RowOf _ base 47 13 EV.cells z.A z.c (z.eras.set k y)
      rw [hA]
      exact hrow.set_ len_era k j x y u hj hk hy
    · rw [List.getElem?_set_ne hi] at hy''
      have hr := h.zones.2.eras a y' hy''
      refine own_setOff32 hr (fun q => ?_) u
      have hyA : y'.A = some ⟨g, 0, none⟩ := by
        rcases hr.2 with ⟨q2, _⟩ | ⟨g2, cap, cur, hv, _⟩
        · rw [q2] at q; cases q
        · rw [hv] at q
          have q3 : g2 = g := Option.some.inj q
          subst q3
          injection hv
      rcases Nat.lt_or_gt_of_ne hi with hlt | hgt
      · exact h.zones.2.apart i a z y' hlt hz hy'' g hA hyA
      · exact h.zones.2.apart a i y' z hgt hy'' hz g hyA hA
  · obtain ⟨x1, hx1, e1⟩ := set_from32 (z' := { z with eras := z.eras.set k y }) hz rfl hya
    obtain ⟨x2, hx2, e2⟩ := set_from32 (z' := { z with eras := z.eras.set k y }) hz rfl hzb
    exact h.zones.2.apart a b x1 x2 hab hx1 hx2 g' (e1.trans h1) (e2.trans h2)
theorem RowOf.addr32 {α : Type} {W : World} {base : Nat} {e : TypeId} {m : Nat} {f : α → List Value} {A : Option Addr} {c : Nat} {L : List α} (h : RowOf W base e m f A c L) (hl : 0 < L.length) : ∃ B, A = some ⟨B, 0, none⟩ ∧ base ≤ B ∧ B < W.heap.size := by
  rcases h.2 with ⟨_, q⟩ | ⟨g, cap, cur, hv, hb, hh, _⟩
  · omega
  · injection hv with hA
    exact ⟨g, hA, hb, (Array.getElem?_eq_some_iff.1 hh).1⟩
theorem RowOf.cellAt32 {α : Type} {W : World} {base : Nat} {e : TypeId} {m : Nat} {f : α → List Value} {B : Nat} {c : Nat} {L : List α} (h : RowOf W base e m f (some ⟨B, 0, none⟩) c L) (hf : ∀ a, (f a).length = m) {k : Nat} {x : α} (hx : L[k]? = some x) (j : Nat) (u : Value) (hu : (f x)[j]? = some u) : W.cell? ⟨B, k * m + j, none⟩ = some u := by
  obtain ⟨b, o, hA, _, hc⟩ := h.cellsIn hf k x hx
  injection hA with hA
  injection hA with h1 h2
  subst h1
  subst h2
  have := hc j u hu
  rwa [Nat.zero_add] at this
theorem RowOf.frozenAt32 {α : Type} {W : World} {base : Nat} {e : TypeId} {m : Nat} {f : α → List Value} {B : Nat} {c : Nat} {L : List α} (h : RowOf W base e m f (some ⟨B, 0, none⟩) c L) (j : Nat) : W.frozen? ⟨B, j, none⟩ = false := World.ownsRow.frozenAt h j
theorem blk_other32 {W W' : World} {g b n size : Nat} {t e : TypeId} {cs : Array Value} {v : Value} {xs : List Value} (h : Blk W g t cs) (k : W.ownsRow b e size v n xs) (hne : t ≠ e) (hg : W.grownBy W' v.ownBlock) : Blk W' g t cs :=
  (hg.block g h.lt fun q => by
    obtain ⟨cur, hc⟩ := block_of k q.symm
    unfold Blk at h
    rw [h] at hc
    injection hc with hc
    injection hc with _ hc _
    exact hne hc).trans h
/-- one cell of a rule is stored -/
theorem CopyOf.setRule32 {W : World} {base : Nat} {t : SV} (h : CopyOf W base t t) {B : Nat} (hA : t.rA = some ⟨B, 0, none⟩) {k j : Nat} {x y : RV} (hk : t.rules[k]? = some x) (u : Value) (hj : j < 11) (hy : y.cells = x.cells.set j u) :
    CopyOf (W.setCell ⟨B, k * 11 + j, none⟩ u) base { t with rules := t.rules.set k y } { t with rules := t.rules.set k y } := by
  have hrow := h.rules.2
  rw [hA] at hrow
  have hO : (Value.slice (some ⟨B, 0, none⟩) t.rules.length t.rc).ownBlock = some B := rfl
  refine ⟨⟨rfl, ?_⟩, ⟨row_set_other h.zones.1 hrow hO (by decide) u, ⟨h.zones.2.same, fun i z hz => row_set_other (h.zones.2.eras i z hz) hrow hO (by decide) u, h.zones.2.apart⟩⟩, ⟨rfl, row_set_other h.links.2 hrow hO (by decide) u⟩, ⟨rfl, row_set_other h.shifts.2 hrow hO (by decide) u⟩⟩
  show RowOf _ base 83 11 RV.cells t.rA t.rc (t.rules.set k y)
  rw [hA]
  exact hrow.set_ len_rule k j x y u hj hk hy
/-- where the loops stand -/
structure Ra (V1 W : World) (G9 wb : Nat) (t : SV) (wA : Option Addr) (wc : Nat) (L : List P32.CV) : Prop where
  box : Blk W G9 32 #[.slice t.rA t.rules.length t.rc, .slice t.zA t.zones.length t.zc, .slice t.kA t.links.length t.kc, .slice t.hA t.shifts.length t.hc]
  cp : CopyOf W V1.heap.size t t
  want : RowOf W wb 87 4 P32.CV.cells wA wc L
  bel : Below V1.heap.size V1 W
  le : V1.heap.size ≤ G9 ∧ G9 < wb
section
variable {V1 W W' : World} {G9 wb wc : Nat} {t : SV} {wA : Option Addr} {L : List P32.CV}
theorem Ra.below (h : Ra V1 W G9 wb t wA wc L) (hb : Below W.heap.size W W') : Ra V1 W' G9 wb t wA wc L :=
  ⟨h.box.below hb h.box.lt, h.cp.below32 hb, h.want.below hb, h.bel.trans (hb.mono h.bel.size), h.le⟩
/-- the changes grow -/
theorem Ra.grown {wA' : Option Addr} {wc' : Nat} {L' : List P32.CV} (h : Ra V1 W G9 wb t wA wc L) (hg : W.grownBy W' (Value.slice wA L.length wc).ownBlock) (hr : RowOf W' wb 87 4 P32.CV.cells wA' wc' L') : Ra V1 W' G9 wb t wA' wc' L' :=
  ⟨blk_other32 h.box h.want (by decide) hg, ⟨⟨rfl, row_other h.cp.rules.2 h.want (by decide) hg⟩, ⟨row_other h.cp.zones.1 h.want (by decide) hg, h.cp.zones.2.other h.want (by decide) hg⟩, ⟨rfl, row_other h.cp.links.2 h.want (by decide) hg⟩, ⟨rfl, row_other h.cp.shifts.2 h.want (by decide) hg⟩⟩, hr, h.bel.grown hg h.bel.size fun k hk => by have := (World.ownsRow.lt h.want k hk).1; have := h.le; omega, h.le⟩
theorem Ra.rule {B k : Nat} {x : RV} (h : Ra V1 W G9 wb t wA wc L) (hA : t.rA = some ⟨B, 0, none⟩) (hk : t.rules[k]? = some x) (j : Nat) (y : RV) (u : Value) (hj : j < 11) (hy : y.cells = x.cells.set j u) :
    Ra V1 (W.setCell ⟨B, k * 11 + j, none⟩ u) G9 wb { t with rules := t.rules.set k y } wA wc L := by
  have hrow := h.cp.rules.2
  rw [hA] at hrow
  have hO : (Value.slice (some ⟨B, 0, none⟩) t.rules.length t.rc).ownBlock = some B := rfl
  refine ⟨?_, h.cp.setRule32 hA hk u hj hy, row_set_other h.want hrow hO (by decide) u, h.bel.setCell (p := ⟨B, k * 11 + j, none⟩) (World.ownsRow.lt hrow B hO).1 u, h.le⟩
  show Blk _ G9 32 #[.slice t.rA (t.rules.set k y).length t.rc, .slice t.zA t.zones.length t.zc, .slice t.kA t.links.length t.kc, .slice t.hA t.shifts.length t.hc]
  rw [List.length_set]
  exact blk_set_other h.box hrow hO (by decide) u
theorem Ra.era {B i k : Nat} {z : ZV} {x : EV} (h : Ra V1 W G9 wb t wA wc L) (hz : t.zones[i]? = some z) (hA : z.A = some ⟨B, 0, none⟩) (hk : z.eras[k]? = some x) (j : Nat) (y : EV) (u : Value) (hj : j < 13) (hy : y.cells = x.cells.set j u) :
    Ra V1 (W.setCell ⟨B, k * 13 + j, none⟩ u) G9 wb (t.setEra32 i z k y) wA wc L := by
  have hrow := h.cp.zones.2.eras i z hz
  rw [hA] at hrow
  have hO : (Value.slice (some ⟨B, 0, none⟩) z.eras.length z.c).ownBlock = some B := rfl
  refine ⟨?_, h.cp.setCell32 hz hA hk u hj hy, row_set_other h.want hrow hO (by decide) u, h.bel.setCell (p := ⟨B, k * 13 + j, none⟩) (World.ownsRow.lt hrow B hO).1 u, h.le⟩
  show Blk _ G9 32 #[.slice t.rA t.rules.length t.rc, .slice t.zA (t.zones.set i _).length t.zc, .slice t.kA t.links.length t.kc, .slice t.hA t.shifts.length t.hc]
  rw [List.length_set]
  exact blk_set_other h.box hrow hO (by decide) u
/-- the rule at a place: where it lies -/
theorem Ra.ruleAt {k : Nat} {x : RV} (h : Ra V1 W G9 wb t wA wc L) (hk : t.rules[k]? = some x) : ∃ B, t.rA = some ⟨B, 0, none⟩ ∧ (∀ j u, x.cells[j]? = some u → W.cell? ⟨B, k * 11 + j, none⟩ = some u) ∧ ∀ j, W.frozen? ⟨B, j, none⟩ = false := by
  obtain ⟨B, hA, _, _⟩ := h.cp.rules.2.addr32 (by have := (List.getElem?_eq_some_iff.1 hk).1; omega)
  have hrow := h.cp.rules.2
  rw [hA] at hrow
  exact ⟨B, hA, fun j u hu => hrow.cellAt32 len_rule hk j u hu, fun j => hrow.frozenAt32 j⟩
theorem Ra.zoneAt {i : Nat} {z : ZV} (h : Ra V1 W G9 wb t wA wc L) (hz : t.zones[i]? = some z) : ∃ B, t.zA = some ⟨B, 0, none⟩ ∧ W.cell? ⟨B, i * 2, none⟩ = some (.string z.name) ∧ W.cell? ⟨B, i * 2 + 1, none⟩ = some (.slice z.A z.eras.length z.c) := by
  obtain ⟨B, hA, _, _⟩ := h.cp.zones.1.addr32 (by have := (List.getElem?_eq_some_iff.1 hz).1; omega)
  have hrow := h.cp.zones.1
  rw [hA] at hrow
  exact ⟨B, hA, hrow.cellAt32 len_zone hz 0 _ rfl, hrow.cellAt32 len_zone hz 1 _ rfl⟩
theorem Ra.eraAt {i k : Nat} {z : ZV} {x : EV} (h : Ra V1 W G9 wb t wA wc L) (hz : t.zones[i]? = some z) (hk : z.eras[k]? = some x) : ∃ B, z.A = some ⟨B, 0, none⟩ ∧ (∀ j u, x.cells[j]? = some u → W.cell? ⟨B, k * 13 + j, none⟩ = some u) ∧ ∀ j, W.frozen? ⟨B, j, none⟩ = false := by
  have hrow := h.cp.zones.2.eras i z hz
  obtain ⟨B, hA, _, _⟩ := hrow.addr32 (by have := (List.getElem?_eq_some_iff.1 hk).1; omega)
  rw [hA] at hrow
  exact ⟨B, hA, fun j u hu => hrow.cellAt32 len_era hk j u hu, fun j => hrow.frozenAt32 j⟩
end
namespace P32
/-- the rules so far -/
structure RelR (s t : SV) (k : Nat) (L : List CV) : Prop where
  len : t.rules.length = s.rules.length
  ok : okTo sameR s.rules t.rules k
  rest : ∀ i, k ≤ i → t.rules[i]? = s.rules[i]?
  list : L = ch diffR mkR s.rules t.rules k
theorem RelR.step {s t : SV} {k : Nat} {L : List CV} (h : RelR s t k L) {x y : RV} {q : Int} (hx : s.rules[k]? = some x) (hy : diffR x y = q ∧ sameR x y = true) : RelR s { t with rules := t.rules.set k y } (k + 1) (L ++ if q = 0 then [] else [mkR k q]) := by
  have hlt : k < t.rules.length := by rw [h.len]; exact (List.getElem?_eq_some_iff.1 hx).1
  have hyy : (t.rules.set k y)[k]? = some y := List.getElem?_set_self hlt
  refine ⟨by show (t.rules.set k y).length = _; rw [List.length_set]; exact h.len, okTo_succ (k := k) (fun i a b hi ha hb => h.ok i a b hi ha ?_) hx hyy hy.2, fun i hi => ?_, ?_⟩
  · have hb' : (t.rules.set k y)[i]? = some b := hb
    rwa [List.getElem?_set_ne (by omega)] at hb'
  · show (t.rules.set k y)[i]? = _
    rw [List.getElem?_set_ne (by omega)]
    exact h.rest i (by omega)
  · show _ = ch diffR mkR s.rules (t.rules.set k y) (k + 1)
    rw [ch_succ _ _ _ _ k x y hx hyy, ch_set, hy.1, h.list]
/-- the eras so far: L0 the changes of the rules -/
structure RelZ (s t : SV) (i k : Nat) (L0 L : List CV) : Prop where
  len : t.zones.length = s.zones.length
  like : ∀ (j : Nat) (z y : ZV), s.zones[j]? = some z → t.zones[j]? = some y → z.name = y.name ∧ z.eras.length = y.eras.length
  ok : okZ s.zones t.zones i
  cur : ∀ z y, s.zones[i]? = some z → t.zones[i]? = some y → okTo sameE z.eras y.eras k ∧ ∀ j, k ≤ j → y.eras[j]? = z.eras[j]?
  rest : ∀ (j : Nat) (z y : ZV), i < j → s.zones[j]? = some z → t.zones[j]? = some y → z.eras = y.eras
  list : L = L0 ++ chZ s.zones t.zones i ++ (match s.zones[i]?, t.zones[i]? with | some z, some y => ch diffE (mkE i) z.eras y.eras k | _, _ => [])
theorem chZ_congr {Z Y Y' : List ZV} : ∀ (n : Nat), (∀ i, i < n → Y[i]? = Y'[i]?) → chZ Z Y n = chZ Z Y' n
  | 0, _ => rfl
  | n + 1, h => by rw [chZ, chZ, chZ_congr n (fun i hi => h i (by omega)), h n (by omega)]
theorem RelZ.start {s t : SV} {L : List CV} (hl : t.zones.length = s.zones.length) (h : ∀ (j : Nat) (z y : ZV), s.zones[j]? = some z → t.zones[j]? = some y → z.name = y.name ∧ z.eras = y.eras) : RelZ s t 0 0 L L :=
  ⟨hl, fun j z y hz hy => ⟨(h j z y hz hy).1, by rw [(h j z y hz hy).2]⟩, fun i z y hi => absurd hi (Nat.not_lt_zero _), fun z y hz hy => ⟨okTo_zero _ _ _, fun j _ => by rw [(h 0 z y hz hy).2]⟩, fun j z y _ hz hy => (h j z y hz hy).2, by
    rw [chZ, List.append_nil]
    cases s.zones[0]? with
    | none => simp
    | some z => cases t.zones[0]? with
      | none => simp
      | some y => simp [ch_zero]⟩
theorem RelZ.step {s t : SV} {i k : Nat} {L0 L : List CV} (h : RelZ s t i k L0 L) {z y : ZV} {x x' : EV} {q : Int} (hz : s.zones[i]? = some z) (hy : t.zones[i]? = some y) (hx : z.eras[k]? = some x) (hd : diffE x x' = q ∧ sameE x x' = true) :
    RelZ s (t.setEra32 i y k x') i (k + 1) L0 (L ++ if q = 0 then [] else [mkE i k q]) := by
  have hit : i < t.zones.length := (List.getElem?_eq_some_iff.1 hy).1
  have hyl := h.like i z y hz hy
  have hky : k < y.eras.length := by rw [← hyl.2]; exact (List.getElem?_eq_some_iff.1 hx).1
  have hsame : ∀ j, j ≠ i → (t.zones.set i { y with eras := y.eras.set k x' })[j]? = t.zones[j]? := fun j hj => List.getElem?_set_ne (fun e => hj e.symm)
  have hself : (t.zones.set i { y with eras := y.eras.set k x' })[i]? = some { y with eras := y.eras.set k x' } := List.getElem?_set_self hit
  have hxx : (y.eras.set k x')[k]? = some x' := List.getElem?_set_self hky
  have hc := h.cur z y hz hy
  refine ⟨by show (t.zones.set i _).length = _; rw [List.length_set]; exact h.len, fun j z2 y2 hz2 hy2 => ?_, fun j z2 y2 hj hz2 hy2 => ?_, fun z2 y2 hz2 hy2 => ?_, fun j z2 y2 hj hz2 hy2 => ?_, ?_⟩
  · have hy2' : (t.zones.set i { y with eras := y.eras.set k x' })[j]? = some y2 := hy2
    by_cases hji : j = i
    · subst hji
      rw [hself] at hy2'
      injection hy2' with hy2'
      subst hy2'
      rw [hz] at hz2
      injection hz2 with hz2
      subst hz2
      exact ⟨hyl.1, by show z.eras.length = (y.eras.set k x').length; rw [List.length_set]; exact hyl.2⟩
    · rw [hsame j hji] at hy2'
      exact h.like j z2 y2 hz2 hy2'
  · have hy2' : (t.zones.set i { y with eras := y.eras.set k x' })[j]? = some y2 := hy2
    rw [hsame j (by omega)] at hy2'
    exact h.ok j z2 y2 hj hz2 hy2'
  · have hy2' : (t.zones.set i { y with eras := y.eras.set k x' })[i]? = some y2 := hy2
    rw [hself] at hy2'
    injection hy2' with hy2'
    subst hy2'
    rw [hz] at hz2
    injection hz2 with hz2
    subst hz2
    refine ⟨okTo_succ (k := k) (fun j a b hj ha hb => hc.1 j a b hj ha ?_) hx hxx hd.2, fun j hj => ?_⟩
    · have hb' : (y.eras.set k x')[j]? = some b := hb
      rwa [List.getElem?_set_ne (by omega)] at hb'
    · show (y.eras.set k x')[j]? = _
      rw [List.getElem?_set_ne (by omega)]
      exact hc.2 j (by omega)
  · have hy2' : (t.zones.set i { y with eras := y.eras.set k x' })[j]? = some y2 := hy2
    rw [hsame j (by omega)] at hy2'
    exact h.rest j z2 y2 hj hz2 hy2'
  · have e1 : chZ s.zones (t.zones.set i { y with eras := y.eras.set k x' }) i = chZ s.zones t.zones i := chZ_congr i fun j hj => hsame j (by omega)
    have hl := h.list
    rw [hz, hy] at hl
    show _ = L0 ++ chZ s.zones (t.zones.set i { y with eras := y.eras.set k x' }) i ++ (match s.zones[i]?, (t.zones.set i { y with eras := y.eras.set k x' })[i]? with | some z, some y => ch diffE (mkE i) z.eras y.eras (k + 1) | _, _ => [])
    rw [hz, hself, e1]
    show _ = L0 ++ chZ s.zones t.zones i ++ ch diffE (mkE i) z.eras (y.eras.set k x') (k + 1)
    rw [ch_succ _ _ _ _ k x x' hx hxx, ch_set, hd.1, hl]
    simp only [List.append_assoc]
theorem RelR.zones {s t : SV} {k i j : Nat} {y : ZV} {x : EV} {L : List CV} (h : RelR s t k L) : RelR s (t.setEra32 i y j x) k L := ⟨h.len, h.ok, h.rest, h.list⟩
theorem set_get {α : Type} {l : List α} {k : Nat} {x : α} (h : l[k]? = some x) : l.set k x = l := List.ext_getElem? fun i => by
  by_cases hi : k = i
  · subst hi
    rw [List.getElem?_set_self (List.getElem?_eq_some_iff.1 h).1, h]
  · rw [List.getElem?_set_ne hi]
theorem RelR.skip {s t : SV} {k : Nat} {L : List CV} (h : RelR s t k L) {x : RV} (hx : s.rules[k]? = some x) : RelR s t (k + 1) L := by
  have q := h.step hx (y := x) (q := 0) ⟨diffR_self x, sameR_self x⟩
  rw [set_get ((h.rest k (Nat.le_refl _)).trans hx)] at q
  simpa using q
theorem setEra_get {t : SV} {i k : Nat} {y : ZV} {x : EV} (hy : t.zones[i]? = some y) (hx : y.eras[k]? = some x) : t.setEra32 i y k x = t := by
  unfold SV.setEra32
  rw [set_get hx, set_get hy]
theorem RelZ.skip {s t : SV} {i k : Nat} {L0 L : List CV} (h : RelZ s t i k L0 L) {z y : ZV} {x : EV} (hz : s.zones[i]? = some z) (hy : t.zones[i]? = some y) (hx : z.eras[k]? = some x) : RelZ s t i (k + 1) L0 L := by
  have q := h.step hz hy hx (x' := x) (q := 0) ⟨diffE_self x, sameE_self x⟩
  have hyx : y.eras[k]? = some x := ((h.cur z y hz hy).2 k (Nat.le_refl _)).trans hx
  rw [setEra_get hy hyx] at q
  simpa using q
end P32
section
variable {V1 W W' : World} {G9 wb wc : Nat} {t : SV} {wA : Option Addr} {L : List P32.CV}
theorem row_box32 {α : Type} {W : World} {base : Nat} {e : TypeId} {m : Nat} {f : α → List Value} {A : Option Addr} {c : Nat} {L : List α} {g : Nat} {t : TypeId} {cs : Array Value} (h : RowOf W base e m f A c L) (hb : Blk W g t cs) (hne : e ≠ t) (j : Nat) (u : Value) : RowOf (W.setCell ⟨g, j, none⟩ u) base e m f A c L := by
  refine ⟨h.1, ?_⟩
  rcases h.2 with q | ⟨k, cap, cur, hv, hb2, hh, hr⟩
  · exact .inl q
  · refine .inr ⟨k, cap, cur, hv, hb2, (Below.heap_setCell W _ u k (fun e => ?_)).trans hh, hr⟩
    have e' : k = g := e
    subst e'
    unfold Blk at hb
    rw [hb] at hh
    injection hh with hh
    injection hh with _ hh _
    exact hne hh.symm
end
theorem row_is32 {W : World} {base n size : Nat} {e : TypeId} {v : Value} {xs : List Value} (h : W.ownsRow base e size v n xs) : ∃ (A : Option Addr) (c : Nat), v = .slice A n c := by
  rcases h.2 with ⟨hv, hn⟩ | ⟨g, cap, cur, hv, _⟩
  · exact ⟨none, 0, by rw [hv, hn]⟩
  · exact ⟨_, _, hv⟩
end Go.Proofs.YtlideagcmhlkeaaDoor

/- The walk of Copy (chapter 28) at somewhat larger sources. -/
namespace Go.Proofs.YtlideagcmhlkeaaDoor
open Go.RowKit
set_option linter.unusedVariables false
set_option linter.unusedSimpArgs false
def fewK (s : SV) : Prop := s.rules.length ≤ 100 ∧ s.zones.length ≤ 100 ∧ s.links.length ≤ 100 ∧ s.shifts.length ≤ 100 ∧ ∀ z ∈ s.zones, z.eras.length ≤ 100
theorem few.k {s : SV} (h : few s) : fewK s := ⟨by have := h.1; omega, by have := h.2.1; omega, by have := h.2.2.1; omega, by have := h.2.2.2.1; omega, fun z hz => by have := h.2.2.2.2 z hz; omega⟩
set_option maxRecDepth 100000 in
set_option maxHeartbeats 8000000 in
theorem copy28W (s : SV) (w : World) (hS : SrcIn w s) (hf : fewK s) :
    Calls Tryd.prog 41 #[.agg #[.slice s.rA s.rules.length s.rc, .slice s.zA s.zones.length s.zc, .slice s.kA s.links.length s.kc, .slice s.hA s.shifts.length s.hc]] w fun e W => ∃ t : SV, e = .returned (.agg #[.slice t.rA t.rules.length t.rc, .slice t.zA t.zones.length t.zc, .slice t.kA t.links.length t.kc, .slice t.hA t.shifts.length t.hc]) ∧ CopyOf W w.heap.size s t ∧ Below w.heap.size w W := by
  have HS := Lib.hid hS; have HF := Lib.hid hf
  clear hS hf
  obtain ⟨i0, hi, hz0, hz1, hz2⟩ := info_parts infoRuleC
  have hB := box28_new w s
  have hsz : (((w.alloc (.cells #[.slice s.rA s.rules.length s.rc, .slice s.zA s.zones.length s.zc, .slice s.kA s.links.length s.kc, .slice s.hA s.shifts.length s.hc] 32)).alloc (.cells #[.slice none 0 0, .slice none 0 0, .slice none 0 0, .slice none 0 0] 32)).alloc (.cells #[.slice none 0 0, .slice none 0 0, .slice none 0 0, .slice none 0 0] 32)).heap.size = w.heap.size + 3 := by simp
  have HB := Lib.hid hB; have HSZ := Lib.hid hsz
  have HIN := Lib.hid (in_news len_rule (by decide) (HS.out.rules.below (HB.out.bel)))
  clear hB hsz
  go_enter Tryd.func41, Tryd.ntmps41
  go_wp2_with (at_builtin; refine wpList_append_copy rfl _ _ 27 rfl (w.heap.size + 3) 83 i0 _ 11 104 Tryd.underlying27 hi hz0 hz1 hz2 rfl (by decide) rfl s.rA s.rules.length s.rc (s.rules.flatMap RV.cells) rfl (fl_len len_rule _) HIN.out (one_fl one_rule _) (by have := HF.out.1; simp only [maxLen]; omega) (by have := HF.out.1; omega) (by rw [HSZ.out]; exact Nat.le_refl _) ?_)
  intro rA rc wa hown hgr
  have hbl := grown_below hgr
  have HR := Lib.hid (show RowOf wa (w.heap.size + 3) 83 11 RV.cells rA rc s.rules from hown)
  have HB1 := Lib.hid (HB.out.below hbl)
  have c0 := (HB1.out.own.cell 0).trans rfl
  have f0 := HB1.out.own.frozen 0
  have HB2 := Lib.hid (HB1.out.set_ 0 (.slice rA s.rules.length rc) rfl)
  have HR2 := Lib.hid (show RowOf (wa.setCell ⟨w.heap.size + 1 + 1, 0, none⟩ (.slice rA s.rules.length rc)) (w.heap.size + 3) 83 11 RV.cells rA rc s.rules from own_farj HR.out _ 0 (by omega) _)
  have hle : s.zones.length ≤ 100 := HF.out.2.1
  have hle2 : (s.zones.length : Int) ≤ 100 := by omega
  clear hown hgr hbl HIN HSZ HB hi hz0 hz1 hz2 HR HB1
  go_wp2_with fail
  clear c0 f0
  go_loopw [4] (fun i W => ∃ k : Nat, k ≤ s.zones.length ∧ i = .int .i64 k ∧ ∃ zA zc Y, Box28 w W s (.slice rA s.rules.length rc) (.slice zA (List.length Y) zc) (.slice none 0 0) (.slice none 0 0) ∧ RowOf W (w.heap.size + 3) 83 11 RV.cells rA rc s.rules ∧ RowOf W (w.heap.size + 3) 39 2 ZV.cells zA zc Y ∧ ZonesIn W (w.heap.size + 3) (s.zones.take k) Y) (fun i _ => s.zones.length - (intOf i).toNat)
  case atStart => exact ⟨0, Nat.zero_le _, rfl, none, 0, [], HB2.out, HR2.out, World.ownsRow_nil .., ⟨rfl, fun i z y h => by simp at h⟩, fun i y h => by simp at h, fun i j y z _ h => by simp at h⟩
  case round =>
    clear HB2 HR2
    obtain ⟨k, hk, rfl, zA, zc, Y, hbx, hrr, hrz, hzi⟩ := hrel
    have c1 := (hbx.src.cell 1).trans rfl
    have HBX := Lib.hid hbx; have HRR := Lib.hid hrr; have HRZ := Lib.hid hrz; have HZI := Lib.hid hzi
    clear hbx hrr hrz hzi
    by_cases hlt : k < s.zones.length
    · have hki : (k : Int) < (s.zones.length : Int) := by omega
      have hk0 : (0 : Int) ≤ (k : Int) := by omega
      obtain ⟨z, hz⟩ : ∃ z, s.zones[k]? = some z := ⟨_, List.getElem?_eq_getElem hlt⟩
      obtain ⟨gz, oz, hzA, hgz, haz⟩ := (HS.out.zones.below HBX.out.bel) k z hz
      rw [hzA] at c1
      have n0 : wr.cell? ⟨gz, oz + k * 2, none⟩ = some (.string z.name) := haz 0 _ rfl
      have n1 : wr.cell? ⟨gz, oz + k * 2 + 1, none⟩ = some (.slice z.A z.eras.length z.c) := haz 1 _ rfl
      have HER := Lib.hid ((HS.out.eras z (List.mem_of_getElem? hz)).below HBX.out.bel)
      have HE20 := Lib.hid (HF.out.2.2.2.2 z (List.mem_of_getElem? hz))
      have HKZ := Lib.hid hz; have HZA := Lib.hid hzA
      have hlt2 := Lib.hid hlt
      have hws : w.heap.size < wr.heap.size := HBX.out.src.lt
      have HNW := Lib.hid (fun W (h : Below wr.heap.size wr W) => in_news len_era (by decide) (HER.out.below h))
      have nb := Blk.new wr 39 #[.string z.name, .slice none 0 0]
      have HNB := Lib.hid nb
      have b1 := (nb.cell 1).trans rfl
      have hal := (Below.refl wr.heap.size wr).alloc (Nat.le_refl _) (.cells #[.string z.name, .slice none 0 0] 39)
      have HAL := Lib.hid hal
      have m1 := (hal.cell (p := ⟨gz, oz + k * 2 + 1, none⟩) hgz).trans n1
      have d1 := (hal.cell (p := ⟨w.heap.size, 1, none⟩) hws).trans c1
      obtain ⟨i1, hi, hz0, hz1, hz2⟩ := info_parts infoEra
      clear haz hz hlt hzA nb hal
      go_wp2_with fail
      go_region_law (first | (refine step_append_copy (by rfl) _ _ _ (by rfl) (wr.heap.size + 1) 47 i1 _ 13 120 Tryd.underlying37 hi hz0 hz1 hz2 rfl (by decide) (by rfl) z.A z.eras.length z.c (z.eras.flatMap EV.cells) (by rfl) (fl_len len_era _) (HNW.out _ (by first | exact HAL.out | exact HAL.out.drew | exact below_drewN HAL.out _)) (one_fl one_era _) (by have := HE20.out; simp only [maxLen]; omega) (by have := HE20.out; omega) (by simp) ?_; intro eA ec wb hown hgr; have hbl := grown_below hgr; have b2 := (((blk_drew1 HNB.out).below hbl (by simp)).cell 1).trans rfl; have f2 := ((blk_drew1 HNB.out).below hbl (by simp)).frozen 1))
      all_goals
        have hfin := ((HAL.out.drew).trans (hbl.mono (by simp))).setCell (p := ⟨wr.heap.size, 1, none⟩) (Nat.le_refl _) (.slice eA z.eras.length ec)
        have hrow := own_farj hown wr.heap.size 1 (by omega) (.slice eA z.eras.length ec)
        have hzb := ((blk_drew1 HNB.out).below hbl (by simp)).set_ 1 (.slice eA z.eras.length ec)
        have HFIN := Lib.hid hfin; have HROW := Lib.hid hrow; have HZB := Lib.hid hzb
        clear hbl hown hgr b1 b2 f2 m1 d1 n0 n1 c1 HNB HAL HNW HER hi hz0 hz1 hz2 hfin hrow hzb
      all_goals
        generalize wb.setCell ⟨wr.heap.size, 1, none⟩ (.slice eA z.eras.length ec) = W5 at HFIN HROW HZB ⊢
        have HSIZ := Lib.hid (show w.heap.size + 3 ≤ wr.heap.size from HBX.out.own.lt)
        have hb5 := HBX.out.below HFIN.out
        have HB5 := Lib.hid hb5
        have HRR5 := Lib.hid (HRR.out.below HFIN.out)
        have HZI5 := Lib.hid (zones_snoc HZI.out HKZ.out HFIN.out HSIZ.out HROW.out)
        have hal := (Below.refl W5.heap.size W5).alloc (Nat.le_refl _) (.cells #[.string z.name, .slice eA z.eras.length ec] 39)
        have HO := Lib.hid ((HRZ.out.below HFIN.out).below hal)
        have HAL := Lib.hid hal
        have HNB2 := Lib.hid (Blk.new W5 39 #[.string z.name, .slice eA z.eras.length ec])
        have HYL : Hid (Y.length ≤ 100) := Lib.hid (by have h1 := HZI.out.same.1; rw [List.length_take] at h1; omega)
        have z0 := (HZB.out.cell 0).trans rfl
        have z1 := (HZB.out.cell 1).trans rfl
        have o1 := (hb5.own.cell 1).trans rfl
        obtain ⟨i2, hi, hz0, hz1, hz2⟩ := info_parts infoZone
        have HSB := Lib.hid (show w.heap.size + 3 ≤ (W5.alloc (.cells #[.string z.name, .slice eA z.eras.length ec] 39)).heap.size by have h1 := HSIZ.out; have h2 := HFIN.out.size; simp; omega)
        clear hb5 hal HBX HRR HRZ HZI HZB HROW HFIN HKZ
        go_wp2_with (at_builtin; refine wpList_append_own _ rfl _ _ 28 rfl (w.heap.size + 3) 39 i2 _ 2 40 Tryd.underlying28 hi hz0 hz1 hz2 rfl (by decide) _ _ _ rfl HO.out ⟨W5.heap.size, 0, none⟩ 1 1 [.string z.name, .slice eA z.eras.length ec] rfl rfl (blk_cells HNB2.out) (by simp [Value.oneCell']) (by have := HYL.out; simp only [maxLen]; omega) (by have := HYL.out; omega) HSB.out ?_)
        intro v1 W6 hown hgr hne
        obtain ⟨zA', zc', rfl⟩ := row_is hown
        have HB6 := Lib.hid ((HB5.out.below HAL.out).grown HO.out hgr)
        have HRR6 := Lib.hid (show RowOf W6 (w.heap.size + 3) 83 11 RV.cells rA rc s.rules from row_other (HRR5.out.below HAL.out) HO.out (by decide) hgr)
        have HZI6 := Lib.hid ((HZI5.out.below HAL.out).other HO.out (by decide) hgr)
        have HRZ6 := Lib.hid (show RowOf W6 (w.heap.size + 3) 39 2 ZV.cells zA' zc' (Y ++ [⟨z.name, eA, ec, z.eras⟩]) from by
          unfold RowOf
          rw [List.length_append, List.flatMap_append]
          exact hown)
        have o2 := (HB6.out.own.cell 1).trans rfl
        have f2 := HB6.out.own.frozen 1
        clear hown hgr hne HO HAL HNB2 HYL HSB HB5 HRR5 HZI5 z0 z1 o1
        go_wp2_with fail
        go_roundw
        case rel => exact ⟨k + 1, by have := hlt2.out; omega, by go_num, zA', zc', Y ++ ([⟨z.name, eA, ec, z.eras⟩] : List ZV), HB6.out.set_ 1 _ (by rw [List.length_append]; rfl), HRR6.out.farj _ 1 (by omega) _, HRZ6.out.farj _ 1 (by omega) _, HZI6.out.farj _ 1 (by omega) _⟩
        case measure => have := hlt2.out; simp [intOf]; omega
    · obtain rfl : k = s.zones.length := by omega
      have hzi := HZI.out
      rw [List.take_length] at hzi
      have HZ := Lib.hid hzi
      have HSB := Lib.hid (show w.heap.size + 3 ≤ wr.heap.size from HBX.out.own.lt)
      have s2 := (HBX.out.src.cell 2).trans rfl
      have o2 := (HBX.out.own.cell 2).trans rfl
      have HIN := Lib.hid (in_news len_link (by decide) (HS.out.links.below (HBX.out.bel)))
      obtain ⟨i1, hi, hz0, hz1, hz2⟩ := info_parts infoLink
      clear hzi HZI
      go_wp2_with (at_builtin; refine wpList_append_copy rfl _ _ 29 rfl (w.heap.size + 3) 94 i1 _ 2 32 Tryd.underlying29 hi hz0 hz1 hz2 rfl (by decide) rfl s.kA s.links.length s.kc (s.links.flatMap KV.cells) rfl (fl_len len_link _) HIN.out (one_fl one_link _) (by have := HF.out.2.2.1; simp only [maxLen]; omega) (by have := HF.out.2.2.1; omega) HSB.out ?_)
      intro kA kc wl hown hgr
      have hbl := grown_below hgr
      have hb2 := HBX.out.below hbl
      have c2 := (hb2.own.cell 2).trans rfl
      have f2 := hb2.own.frozen 2
      have HBL := Lib.hid (hb2.set_ 2 (.slice kA s.links.length kc) rfl)
      have HRL := Lib.hid ((HRR.out.below hbl).farj (w.heap.size + 1 + 1) 2 (by omega) (.slice kA s.links.length kc))
      have HZL := Lib.hid ((HZ.out.below hbl).farj (w.heap.size + 1 + 1) 2 (by omega) (.slice kA s.links.length kc))
      have HYL := Lib.hid ((HRZ.out.below hbl).farj (w.heap.size + 1 + 1) 2 (by omega) (.slice kA s.links.length kc))
      have HKL := Lib.hid ((show RowOf wl (w.heap.size + 3) 94 2 KV.cells kA kc s.links from hown).farj (w.heap.size + 1 + 1) 2 (by omega) (.slice kA s.links.length kc))
      have HSL := Lib.hid (show w.heap.size + 3 ≤ (wl.setCell ⟨w.heap.size + 1 + 1, 2, none⟩ (.slice kA s.links.length kc)).heap.size from HBL.out.own.lt)
      have HIL := Lib.hid (in_news (f := fun b : ByteArray => [Value.string b]) (m := 1) (fun _ => rfl) (by decide) (HS.out.shifts.below (HBL.out.bel)))
      have s3 := (HBL.out.src.cell 3).trans rfl
      have o3 := (HBL.out.own.cell 3).trans rfl
      have HL1 := Lib.hid (fl_len (f := fun b : ByteArray => [Value.string b]) (m := 1) (fun _ => rfl) s.shifts)
      have H1S := Lib.hid (one_fl (f := fun b : ByteArray => [Value.string b]) (fun a u hu => by rw [List.mem_singleton.1 hu]; rfl) s.shifts)
      obtain ⟨i3, hi3, hy0, hy1, hy2⟩ := info_parts infoStrC
      clear hown hgr hbl hb2 HIN HSB HBX HRR HRZ HZ s2 o2 hi hz0 hz1 hz2 c1
      go_wp2_with (at_builtin; refine wpList_append_copy rfl _ _ 30 rfl (w.heap.size + 3) 9 i3 _ 1 16 Tryd.underlying30 hi3 hy0 hy1 hy2 rfl (by decide) rfl s.hA s.shifts.length s.hc (s.shifts.flatMap fun b : ByteArray => [Value.string b]) rfl HL1.out HIL.out H1S.out (by have := HF.out.2.2.2.1; simp only [maxLen]; omega) (by have := HF.out.2.2.2.1; omega) HSL.out ?_)
      intro hA hc wh hown hgr
      have hbl := grown_below hgr
      have hb2 := HBL.out.below hbl
      have c3 := (hb2.own.cell 3).trans rfl
      have f3 := hb2.own.frozen 3
      have HBH := Lib.hid (hb2.set_ 3 (.slice hA s.shifts.length hc) rfl)
      have HRH := Lib.hid ((HRL.out.below hbl).farj (w.heap.size + 1 + 1) 3 (by omega) (.slice hA s.shifts.length hc))
      have HZH := Lib.hid ((HZL.out.below hbl).farj (w.heap.size + 1 + 1) 3 (by omega) (.slice hA s.shifts.length hc))
      have HYH := Lib.hid ((HYL.out.below hbl).farj (w.heap.size + 1 + 1) 3 (by omega) (.slice hA s.shifts.length hc))
      have HKH := Lib.hid ((HKL.out.below hbl).farj (w.heap.size + 1 + 1) 3 (by omega) (.slice hA s.shifts.length hc))
      have HHH := Lib.hid ((show RowOf wh (w.heap.size + 3) 9 1 (fun b : ByteArray => [Value.string b]) hA hc s.shifts from hown).farj (w.heap.size + 1 + 1) 3 (by omega) (.slice hA s.shifts.length hc))
      have p0 := (HBH.out.own.cell 0).trans rfl
      have p1 := (HBH.out.own.cell 1).trans rfl
      have p2 := (HBH.out.own.cell 2).trans rfl
      have p3 := (HBH.out.own.cell 3).trans rfl
      have r0 := (HBH.out.res.cell 0).trans rfl
      have r1 := (HBH.out.res.cell 1).trans rfl
      have r2 := (HBH.out.res.cell 2).trans rfl
      have r3 := (HBH.out.res.cell 3).trans rfl
      have g0 := HBH.out.res.frozen 0
      have g1 := HBH.out.res.frozen 1
      have g2 := HBH.out.res.frozen 2
      have g3 := HBH.out.res.frozen 3
      clear hown hgr hbl hb2 HIL HSL HBL HRL HYL HZL HKL s3 o3 hi3 hy0 hy1 hy2 c2 f2
      have HRES := Lib.hid ((((HBH.out.res.set_ 0 (.slice rA s.rules.length rc)).set_ 1 (.slice zA Y.length zc)).set_ 2 (.slice kA s.links.length kc)).set_ 3 (.slice hA s.shifts.length hc))
      have k0 := (HRES.out.cell 0).trans rfl
      have k1 := (HRES.out.cell 1).trans rfl
      have k2 := (HRES.out.cell 2).trans rfl
      have k3 := (HRES.out.cell 3).trans rfl
      go_wp2_with fail
      refine bodyPost_ret (v := .agg #[.slice rA s.rules.length rc, .slice zA Y.length zc, .slice kA s.links.length kc, .slice hA s.shifts.length hc]) (by simp [results, Tryd.results41, go_sem, k0, k1, k2, k3]) rfl ?_
      refine ⟨⟨rA, rc, s.rules, zA, zc, Y, kA, kc, s.links, hA, hc, s.shifts⟩, rfl, ?_, ?_⟩
      · have st := fun {α : Type} {e : TypeId} {m : Nat} {f : α → List Value} {A : Option Addr} {c : Nat} {L : List α} (h : RowOf (wh.setCell ⟨w.heap.size + 1 + 1, 3, none⟩ (.slice hA s.shifts.length hc)) (w.heap.size + 3) e m f A c L) => ((((h.farj (w.heap.size + 1) 0 (by omega) (.slice rA s.rules.length rc)).farj (w.heap.size + 1) 1 (by omega) (.slice zA Y.length zc)).farj (w.heap.size + 1) 2 (by omega) (.slice kA s.links.length kc)).farj (w.heap.size + 1) 3 (by omega) (.slice hA s.shifts.length hc))
        exact ⟨⟨rfl, own_base (st HRH.out) (by omega)⟩, ⟨own_base (st HYH.out) (by omega), ((((HZH.out.farj (w.heap.size + 1) 0 (by omega) (.slice rA s.rules.length rc)).farj (w.heap.size + 1) 1 (by omega) (.slice zA Y.length zc)).farj (w.heap.size + 1) 2 (by omega) (.slice kA s.links.length kc)).farj (w.heap.size + 1) 3 (by omega) (.slice hA s.shifts.length hc)).base_le (by omega)⟩, ⟨rfl, own_base (st HKH.out) (by omega)⟩, ⟨rfl, own_base (st HHH.out) (by omega)⟩⟩
      · exact (((HBH.out.bel.setCell (p := ⟨w.heap.size + 1, 0, none⟩) (by simp) _).setCell (p := ⟨w.heap.size + 1, 1, none⟩) (by simp) _).setCell (p := ⟨w.heap.size + 1, 2, none⟩) (by simp) _).setCell (p := ⟨w.heap.size + 1, 3, none⟩) (by simp) _
end Go.Proofs.YtlideagcmhlkeaaDoor

/- The ground of ReportShapes: a copy that is changed at one place, and which sources have not the same shape. No walk. -/
namespace Go.Proofs.YtlideagcmhlkeaaDoor
open Go.RowKit
set_option linter.unusedVariables false

theorem RowOf.cellsIn32 {α : Type} {W : World} {base : Nat} {e : TypeId} {m : Nat} {f : α → List Value} {A : Option Addr} {c : Nat} {L : List α} (h : W.ownsRow base e m (.slice A L.length c) L.length (L.flatMap f)) (hf : ∀ a, (f a).length = m) : CellsIn m f W A L := RowOf.cellsIn h hf
/-- a source of one's own, with its box -/
structure Sb (V1 W : World) (n G base : Nat) (t : SV) : Prop where
  box : Blk W G 32 #[.slice t.rA t.rules.length t.rc, .slice t.zA t.zones.length t.zc, .slice t.kA t.links.length t.kc, .slice t.hA t.shifts.length t.hc]
  cp : CopyOf W base t t
  bel : Below n V1 W
  le : n ≤ base ∧ n ≤ G
/-- a source in its box -/
structure Fn (V1 W : World) (n G : Nat) (t : SV) : Prop where
  box : Blk W G 32 #[.slice t.rA t.rules.length t.rc, .slice t.zA t.zones.length t.zc, .slice t.kA t.links.length t.kc, .slice t.hA t.shifts.length t.hc]
  src : SrcIn W t
  bel : Below n V1 W
section
variable {V1 W W' : World} {n G base : Nat} {t : SV}
theorem Sb.below (h : Sb V1 W n G base t) (hb : Below W.heap.size W W') : Sb V1 W' n G base t :=
  ⟨h.box.below hb h.box.lt, h.cp.below32 hb, h.bel.trans (hb.mono (Nat.le_trans h.le.2 (Nat.le_of_lt h.box.lt))), h.le⟩
theorem Sb.fin (h : Sb V1 W n G base t) : Fn V1 W n G t := ⟨h.box, h.cp.src, h.bel⟩
theorem Fn.below (h : Fn V1 W n G t) (hn : n ≤ W.heap.size) (hb : Below W.heap.size W W') : Fn V1 W' n G t := ⟨h.box.below hb h.box.lt, h.src.below hb, h.bel.trans (hb.mono hn)⟩
/-- one cell of a rule -/
theorem Sb.rule {B k : Nat} {x : RV} (h : Sb V1 W n G base t) (hA : t.rA = some ⟨B, 0, none⟩) (hk : t.rules[k]? = some x) (j : Nat) (y : RV) (u : Value) (hj : j < 11) (hy : y.cells = x.cells.set j u) :
    Fn V1 (W.setCell ⟨B, k * 11 + j, none⟩ u) n G { t with rules := t.rules.set k y } := by
  have hrow := h.cp.rules.2
  rw [hA] at hrow
  have hO : (Value.slice (some ⟨B, 0, none⟩) t.rules.length t.rc).ownBlock = some B := rfl
  refine ⟨?_, (h.cp.setRule32 hA hk u hj hy).src, h.bel.setCell (p := ⟨B, k * 11 + j, none⟩) (Nat.le_trans h.le.1 (World.ownsRow.lt hrow B hO).1) u⟩
  show Blk _ G 32 #[.slice t.rA (t.rules.set k y).length t.rc, .slice t.zA t.zones.length t.zc, .slice t.kA t.links.length t.kc, .slice t.hA t.shifts.length t.hc]
  rw [List.length_set]
  exact blk_set_other h.box hrow hO (by decide) u
/-- one cell of an era -/
theorem Sb.era {B i k : Nat} {z : ZV} {x : EV} (h : Sb V1 W n G base t) (hz : t.zones[i]? = some z) (hA : z.A = some ⟨B, 0, none⟩) (hk : z.eras[k]? = some x) (j : Nat) (y : EV) (u : Value) (hj : j < 13) (hy : y.cells = x.cells.set j u) :
    Fn V1 (W.setCell ⟨B, k * 13 + j, none⟩ u) n G (t.setEra32 i z k y) := by
  have hrow := h.cp.zones.2.eras i z hz
  rw [hA] at hrow
  have hO : (Value.slice (some ⟨B, 0, none⟩) z.eras.length z.c).ownBlock = some B := rfl
  refine ⟨?_, (h.cp.setCell32 hz hA hk u hj hy).src, h.bel.setCell (p := ⟨B, k * 13 + j, none⟩) (Nat.le_trans h.le.1 (World.ownsRow.lt hrow B hO).1) u⟩
  show Blk _ G 32 #[.slice t.rA t.rules.length t.rc, .slice t.zA (t.zones.set i _).length t.zc, .slice t.kA t.links.length t.kc, .slice t.hA t.shifts.length t.hc]
  rw [List.length_set]
  exact blk_set_other h.box hrow hO (by decide) u
/-- the target of a link -/
theorem Sb.link {B k : Nat} {x : KV} (h : Sb V1 W n G base t) (hA : t.kA = some ⟨B, 0, none⟩) (hk : t.links[k]? = some x) (j : Nat) (y : KV) (u : Value) (hj : j < 2) (hy : y.cells = x.cells.set j u) :
    Fn V1 (W.setCell ⟨B, k * 2 + j, none⟩ u) n G { t with links := t.links.set k y } := by
  have hrow := h.cp.links.2
  rw [hA] at hrow
  have hO : (Value.slice (some ⟨B, 0, none⟩) t.links.length t.kc).ownBlock = some B := rfl
  have hc : CopyOf (W.setCell ⟨B, k * 2 + j, none⟩ u) base { t with links := t.links.set k y } { t with links := t.links.set k y } := by
    refine ⟨⟨rfl, row_set_other h.cp.rules.2 hrow hO (by decide) u⟩, ⟨row_set_other h.cp.zones.1 hrow hO (by decide) u, ⟨h.cp.zones.2.same, fun i z hz => row_set_other (h.cp.zones.2.eras i z hz) hrow hO (by decide) u, h.cp.zones.2.apart⟩⟩, ⟨rfl, ?_⟩, ⟨rfl, row_set_other h.cp.shifts.2 hrow hO (by decide) u⟩⟩
    show RowOf _ base 94 2 KV.cells t.kA t.kc (t.links.set k y)
    rw [hA]
    exact hrow.set_ (fun _ => rfl) k j x y u hj hk hy
  refine ⟨?_, hc.src, h.bel.setCell (p := ⟨B, k * 2 + j, none⟩) (Nat.le_trans h.le.1 (World.ownsRow.lt hrow B hO).1) u⟩
  show Blk _ G 32 #[.slice t.rA t.rules.length t.rc, .slice t.zA t.zones.length t.zc, .slice t.kA (t.links.set k y).length t.kc, .slice t.hA t.shifts.length t.hc]
  rw [List.length_set]
  exact blk_set_other h.box hrow hO (by decide) u
/-- the name of a zone -/
theorem Sb.zname {B i : Nat} {z : ZV} (h : Sb V1 W n G base t) (hA : t.zA = some ⟨B, 0, none⟩) (hz : t.zones[i]? = some z) (b : ByteArray) :
    Fn V1 (W.setCell ⟨B, i * 2 + 0, none⟩ (.string b)) n G { t with zones := t.zones.set i { z with name := b } } := by
  have hrow := h.cp.zones.1
  rw [hA] at hrow
  have hO : (Value.slice (some ⟨B, 0, none⟩) t.zones.length t.zc).ownBlock = some B := rfl
  refine ⟨?_, ⟨(RowOf.cellsIn32 (row_set_other h.cp.rules.2 hrow hO (by decide) _) len_rule), ?_, (RowOf.cellsIn32 (row_set_other h.cp.links.2 hrow hO (by decide) _) (fun _ => rfl)), (RowOf.cellsIn32 (row_set_other h.cp.shifts.2 hrow hO (by decide) _) (fun _ => rfl)), fun y hy => ?_⟩, h.bel.setCell (p := ⟨B, i * 2 + 0, none⟩) (Nat.le_trans h.le.1 (World.ownsRow.lt hrow B hO).1) _⟩
  · show Blk _ G 32 #[.slice t.rA t.rules.length t.rc, .slice t.zA (t.zones.set i _).length t.zc, .slice t.kA t.links.length t.kc, .slice t.hA t.shifts.length t.hc]
    rw [List.length_set]
    exact blk_set_other h.box hrow hO (by decide) _
  · have q := hrow.set_ len_zone i 0 z { z with name := b } (.string b) (by decide) hz rfl
    have q2 := RowOf.cellsIn q len_zone
    show CellsIn 2 ZV.cells _ t.zA (t.zones.set i { z with name := b })
    rw [hA]
    exact q2
  · rcases List.mem_or_eq_of_mem_set hy with q | q
    · obtain ⟨a, ha⟩ := List.getElem?_of_mem q
      exact (RowOf.cellsIn32 (row_set_other (h.cp.zones.2.eras a y ha) hrow hO (by decide) _) len_era)
    · subst q
      exact (RowOf.cellsIn32 (row_set_other (h.cp.zones.2.eras i z hz) hrow hO (by decide) _) len_era)
/-- a rule is appended -/
theorem Sb.growR {rA' : Option Addr} {rc' : Nat} {x : RV} (h : Sb V1 W n G base t) (hg : W.grownBy W' (Value.slice t.rA t.rules.length t.rc).ownBlock) (hr : RowOf W' base 83 11 RV.cells rA' rc' (t.rules ++ [x])) :
    Sb V1 (W'.setCell ⟨G, 0, none⟩ (.slice rA' (t.rules.length + 1) rc')) n G base { t with rules := t.rules ++ [x], rA := rA', rc := rc' } := by
  have hs := h.cp.rules.2
  have o := blk_other32 h.box hs (by decide) hg
  have hl : t.rules.length + 1 = (t.rules ++ [x]).length := by simp
  rw [hl]
  refine ⟨o.set_ 0 _, ⟨⟨rfl, row_box32 hr o (by decide) 0 _⟩, ⟨row_box32 (row_other h.cp.zones.1 hs (by decide) hg) o (by decide) 0 _, ⟨h.cp.zones.2.same, fun i y hy => row_box32 (row_other (h.cp.zones.2.eras i y hy) hs (by decide) hg) o (by decide) 0 _, h.cp.zones.2.apart⟩⟩, ⟨rfl, row_box32 (row_other h.cp.links.2 hs (by decide) hg) o (by decide) 0 _⟩, ⟨rfl, row_box32 (row_other h.cp.shifts.2 hs (by decide) hg) o (by decide) 0 _⟩⟩, ?_, h.le⟩
  exact (h.bel.grown hg (Nat.le_trans h.le.2 (Nat.le_of_lt h.box.lt)) fun k hk => Nat.le_trans h.le.1 (World.ownsRow.lt hs k hk).1).setCell (p := ⟨G, 0, none⟩) h.le.2 _
/-- a link is appended -/
theorem Sb.growK {kA' : Option Addr} {kc' : Nat} {x : KV} (h : Sb V1 W n G base t) (hg : W.grownBy W' (Value.slice t.kA t.links.length t.kc).ownBlock) (hr : RowOf W' base 94 2 KV.cells kA' kc' (t.links ++ [x])) :
    Sb V1 (W'.setCell ⟨G, 2, none⟩ (.slice kA' (t.links.length + 1) kc')) n G base { t with links := t.links ++ [x], kA := kA', kc := kc' } := by
  have hs := h.cp.links.2
  have o := blk_other32 h.box hs (by decide) hg
  have hl : t.links.length + 1 = (t.links ++ [x]).length := by simp
  rw [hl]
  refine ⟨o.set_ 2 _, ⟨⟨rfl, row_box32 (row_other h.cp.rules.2 hs (by decide) hg) o (by decide) 2 _⟩, ⟨row_box32 (row_other h.cp.zones.1 hs (by decide) hg) o (by decide) 2 _, ⟨h.cp.zones.2.same, fun i y hy => row_box32 (row_other (h.cp.zones.2.eras i y hy) hs (by decide) hg) o (by decide) 2 _, h.cp.zones.2.apart⟩⟩, ⟨rfl, row_box32 hr o (by decide) 2 _⟩, ⟨rfl, row_box32 (row_other h.cp.shifts.2 hs (by decide) hg) o (by decide) 2 _⟩⟩, ?_, h.le⟩
  exact (h.bel.grown hg (Nat.le_trans h.le.2 (Nat.le_of_lt h.box.lt)) fun k hk => Nat.le_trans h.le.1 (World.ownsRow.lt hs k hk).1).setCell (p := ⟨G, 2, none⟩) h.le.2 _
/-- a zone is appended, with a row of its own -/
theorem Sb.growZ {zA' : Option Addr} {zc' : Nat} {z : ZV} (h : Sb V1 W n G base t) (hz : RowOf W base 47 13 EV.cells z.A z.c z.eras) (hap : ∀ y ∈ t.zones, ∀ g, y.A = some ⟨g, 0, none⟩ → z.A ≠ some ⟨g, 0, none⟩) (hg : W.grownBy W' (Value.slice t.zA t.zones.length t.zc).ownBlock) (hr : RowOf W' base 39 2 ZV.cells zA' zc' (t.zones ++ [z])) :
    Sb V1 (W'.setCell ⟨G, 1, none⟩ (.slice zA' (t.zones.length + 1) zc')) n G base { t with zones := t.zones ++ [z], zA := zA', zc := zc' } := by
  have hs := h.cp.zones.1
  have o := blk_other32 h.box hs (by decide) hg
  have hl : t.zones.length + 1 = (t.zones ++ [z]).length := by simp
  rw [hl]
  have key : ∀ (i : Nat) (y : ZV), (t.zones ++ [z])[i]? = some y → (t.zones[i]? = some y) ∨ (i = t.zones.length ∧ y = z) := fun i y hy => by
    by_cases hi : i < t.zones.length
    · rw [List.getElem?_append_left hi] at hy; exact .inl hy
    · rw [List.getElem?_append_right (by omega)] at hy
      have hlt := (List.getElem?_eq_some_iff.1 hy).1
      have hi0 : i - t.zones.length = 0 := by simpa using hlt
      rw [hi0] at hy
      injection hy with hy
      exact .inr ⟨by omega, hy.symm⟩
  refine ⟨o.set_ 1 _, ⟨⟨rfl, row_box32 (row_other h.cp.rules.2 hs (by decide) hg) o (by decide) 1 _⟩, ⟨row_box32 hr o (by decide) 1 _, ⟨⟨rfl, fun i z y hz hy => by rw [hz] at hy; injection hy with hy; subst hy; exact ⟨rfl, rfl⟩⟩, fun i y hy => ?_, fun i j y x hij hy hx g hA => ?_⟩⟩, ⟨rfl, row_box32 (row_other h.cp.links.2 hs (by decide) hg) o (by decide) 1 _⟩, ⟨rfl, row_box32 (row_other h.cp.shifts.2 hs (by decide) hg) o (by decide) 1 _⟩⟩, ?_, h.le⟩
  · rcases key i y hy with q | ⟨_, rfl⟩
    · exact row_box32 (row_other (h.cp.zones.2.eras i y q) hs (by decide) hg) o (by decide) 1 _
    · exact row_box32 (row_other hz hs (by decide) hg) o (by decide) 1 _
  · rcases key i y hy with q | ⟨hi, rfl⟩
    · rcases key j x hx with q2 | ⟨_, rfl⟩
      · exact h.cp.zones.2.apart i j y x hij q q2 g hA
      · exact hap y (List.mem_of_getElem? q) g hA
    · have hj := (List.getElem?_eq_some_iff.1 hx).1
      rw [List.length_append] at hj
      simp at hj
      omega
  · exact (h.bel.grown hg (Nat.le_trans h.le.2 (Nat.le_of_lt h.box.lt)) fun k hk => Nat.le_trans h.le.1 (World.ownsRow.lt hs k hk).1).setCell (p := ⟨G, 1, none⟩) h.le.2 _
/-- an era is appended to a zone's -/
theorem Sb.growE {A' : Option Addr} {c' Bz i : Nat} {z : ZV} {x : EV} (h : Sb V1 W n G base t) (hzA : t.zA = some ⟨Bz, 0, none⟩) (hz : t.zones[i]? = some z) (hg : W.grownBy W' (Value.slice z.A z.eras.length z.c).ownBlock) (hr : RowOf W' base 47 13 EV.cells A' c' (z.eras ++ [x])) :
    Fn V1 (W'.setCell ⟨Bz, i * 2 + 1, none⟩ (.slice A' (z.eras.length + 1) c')) n G { t with zones := t.zones.set i { z with A := A', c := c', eras := z.eras ++ [x] } } := by
  have hs := h.cp.zones.2.eras i z hz
  have hrow0 : RowOf W' base 39 2 ZV.cells t.zA t.zc t.zones := row_other h.cp.zones.1 hs (by decide) hg
  have hrow := hrow0
  rw [hzA] at hrow
  have hO : (Value.slice (some ⟨Bz, 0, none⟩) t.zones.length t.zc).ownBlock = some Bz := rfl
  have o := blk_other32 h.box hs (by decide) hg
  have hl : z.eras.length + 1 = (z.eras ++ [x]).length := by simp
  rw [hl]
  have q := hrow.set_ len_zone i 1 z { z with A := A', c := c', eras := z.eras ++ [x] } (.slice A' (z.eras ++ [x]).length c') (by decide) hz rfl
  refine ⟨?_, ⟨(RowOf.cellsIn32 (row_set_other (row_other h.cp.rules.2 hs (by decide) hg) hrow hO (by decide) _) len_rule), ?_, (RowOf.cellsIn32 (row_set_other (row_other h.cp.links.2 hs (by decide) hg) hrow hO (by decide) _) (fun _ => rfl)), (RowOf.cellsIn32 (row_set_other (row_other h.cp.shifts.2 hs (by decide) hg) hrow hO (by decide) _) (fun _ => rfl)), fun y hy => ?_⟩, ?_⟩
  · show Blk _ G 32 #[.slice t.rA t.rules.length t.rc, .slice t.zA (t.zones.set i _).length t.zc, .slice t.kA t.links.length t.kc, .slice t.hA t.shifts.length t.hc]
    rw [List.length_set]
    exact blk_set_other o hrow hO (by decide) _
  · have q2 := RowOf.cellsIn q len_zone
    show CellsIn 2 ZV.cells _ t.zA (t.zones.set i _)
    rw [hzA]
    exact q2
  · have hy' : y ∈ t.zones.set i { z with A := A', c := c', eras := z.eras ++ [x] } := hy
    obtain ⟨a, ha⟩ := List.getElem?_of_mem hy'
    by_cases hai : i = a
    · subst hai
      rw [List.getElem?_set_self (List.getElem?_eq_some_iff.1 hz).1] at ha
      injection ha with ha
      subst ha
      exact (RowOf.cellsIn32 (row_set_other hr hrow hO (by decide) _) len_era)
    · rw [List.getElem?_set_ne hai] at ha
      have hk : RowOf W' base 47 13 EV.cells y.A y.c y.eras := by
        refine World.ownsRow.kept (h.cp.zones.2.eras a y ha) hg ?_
        rcases (h.cp.zones.2.eras a y ha).2 with ⟨hv, _⟩ | ⟨g, cap, cur, hv, _⟩
        · left; rw [hv]; rfl
        · right
          injection hv with hA _ _
          rw [hA]
          show some g ≠ _
          intro e
          rcases hs.2 with ⟨hv2, _⟩ | ⟨g2, cap2, cur2, hv2, _⟩
          · rw [hv2] at e; cases e
          · injection hv2 with hA2 _ _
            rw [hA2] at e
            have e' : g = g2 := by
              have e2 : some g = some g2 := e
              injection e2
            subst e'
            rcases Nat.lt_or_gt_of_ne hai with h1 | h1
            · exact h.cp.zones.2.apart i a z y h1 hz ha g hA2 hA
            · exact h.cp.zones.2.apart a i y z h1 ha hz g hA hA2
      exact (RowOf.cellsIn32 (row_set_other hk hrow hO (by decide) _) len_era)
  · exact (h.bel.grown hg (Nat.le_trans h.le.2 (Nat.le_of_lt h.box.lt)) fun k hk => Nat.le_trans h.le.1 (World.ownsRow.lt hs k hk).1).setCell (p := ⟨Bz, i * 2 + 1, none⟩) (Nat.le_trans h.le.1 (World.ownsRow.lt hrow Bz hO).1) _
/-- the first link is left out -/
theorem Sb.tailK {B c' : Nat} {A' : Option Addr} (h : Sb V1 W n G base t) (hA : t.kA = some ⟨B, 0, none⟩) (hl : 0 < t.links.length) (hA' : 1 < t.links.length → A' = some ⟨B, 2, none⟩) :
    Fn V1 (W.setCell ⟨G, 2, none⟩ (.slice A' (t.links.length - 1) c')) n G { t with links := t.links.tail, kA := A', kc := c' } := by
  have hll : t.links.length - 1 = t.links.tail.length := by simp
  have o := h.box
  rw [hll]
  refine ⟨o.set_ 2 _, ⟨(RowOf.cellsIn32 (row_box32 h.cp.rules.2 o (by decide) 2 _) len_rule), (RowOf.cellsIn32 (row_box32 h.cp.zones.1 o (by decide) 2 _) len_zone), fun k x hx => ?_, (RowOf.cellsIn32 (row_box32 h.cp.shifts.2 o (by decide) 2 _) (fun _ => rfl)), fun z hz => ?_⟩, h.bel.setCell (p := ⟨G, 2, none⟩) h.le.2 _⟩
  · have hx' : t.links.tail[k]? = some x := hx
    rw [List.getElem?_tail] at hx'
    have hlt := (List.getElem?_eq_some_iff.1 hx').1
    have hrow := row_box32 h.cp.links.2 o (by decide) 2 (.slice A' t.links.tail.length c')
    rw [hA] at hrow
    refine ⟨B, 2, hA' (by omega), (World.ownsRow.lt hrow B rfl).2, fun j u hu => ?_⟩
    have q := hrow.cellAt32 (fun _ => rfl) hx' j u hu
    rw [show 2 + k * 2 + j = (k + 1) * 2 + j by omega]
    exact q
  · obtain ⟨i, hi⟩ := List.getElem?_of_mem hz
    exact (RowOf.cellsIn32 (row_box32 (h.cp.zones.2.eras i z hi) o (by decide) 2 _) len_era)
end
namespace P32
/-- a source and its copy -/
structure Like (s t : SV) : Prop where
  rules : t.rules = s.rules
  links : t.links = s.links
  len : t.zones.length = s.zones.length
  zones : ∀ (j : Nat) (z y : ZV), s.zones[j]? = some z → t.zones[j]? = some y → y.name = z.name ∧ y.eras = z.eras
section
variable {s t : SV}
theorem Like.zat (h : Like s t) {i : Nat} {y : ZV} (hy : t.zones[i]? = some y) : ∃ z, s.zones[i]? = some z ∧ y.name = z.name ∧ y.eras = z.eras := by
  have hi := (List.getElem?_eq_some_iff.1 hy).1
  obtain ⟨z, hz⟩ : ∃ z, s.zones[i]? = some z := ⟨_, List.getElem?_eq_getElem (by rw [← h.len]; exact hi)⟩
  exact ⟨z, hz, h.zones i z y hz hy⟩
theorem no_rule (h : Like s t) {i : Nat} {x y : RV} (hx : t.rules[i]? = some x) (hd : sameR x y = false) : ¬ okS s { t with rules := t.rules.set i y } := fun q => by
  have q1 := q.1.2 i x y (by rw [← h.rules]; exact (List.getElem?_eq_some_iff.1 hx).1) (by rw [← h.rules]; exact hx) (List.getElem?_set_self (List.getElem?_eq_some_iff.1 hx).1)
  rw [hd] at q1; cases q1
theorem no_rlen {u : SV} (hl : u.rules.length ≠ s.rules.length) : ¬ okS s u := fun q => hl q.1.1.symm
theorem no_zlen {u : SV} (hl : u.zones.length ≠ s.zones.length) : ¬ okS s u := fun q => hl q.2.1.symm
theorem no_link {u : SV} (hl : u.links ≠ s.links) : ¬ okS s u := fun q => hl q.2.2.2.symm
theorem no_zone {u : SV} {i : Nat} {z y : ZV} (hz : s.zones[i]? = some z) (hy : u.zones[i]? = some y) (hn : ¬ sameZ z y) : ¬ okS s u := fun q => hn (q.2.2.1 i z y (List.getElem?_eq_some_iff.1 hz).1 hz hy)
theorem no_zname (h : Like s t) {i : Nat} {y : ZV} (hy : t.zones[i]? = some y) {b : ByteArray} (hb : b ≠ y.name) : ¬ okS s { t with zones := t.zones.set i { y with name := b } } := by
  obtain ⟨z, hz, hn, _⟩ := h.zat hy
  exact no_zone hz (List.getElem?_set_self (List.getElem?_eq_some_iff.1 hy).1) fun q => hb (q.1.symm.trans hn.symm)
theorem no_elen (h : Like s t) {i : Nat} {y y' : ZV} (hy : t.zones[i]? = some y) (hl : y'.eras.length ≠ y.eras.length) : ¬ okS s { t with zones := t.zones.set i y' } := by
  obtain ⟨z, hz, _, he⟩ := h.zat hy
  exact no_zone hz (List.getElem?_set_self (List.getElem?_eq_some_iff.1 hy).1) fun q => hl (by rw [he]; exact q.2.1.symm)
theorem no_era (h : Like s t) {i k : Nat} {y : ZV} {x x' : EV} (hy : t.zones[i]? = some y) (hx : y.eras[k]? = some x) (hd : sameE x x' = false) : ¬ okS s (t.setEra32 i y k x') := by
  obtain ⟨z, hz, _, he⟩ := h.zat hy
  have hk := (List.getElem?_eq_some_iff.1 hx).1
  refine no_zone hz (List.getElem?_set_self (List.getElem?_eq_some_iff.1 hy).1) fun q => ?_
  have q1 := q.2.2 k x x' (by rw [← he]; exact hk) (by rw [← he]; exact hx) (List.getElem?_set_self hk)
  rw [hd] at q1; cases q1
end
end P32
end Go.Proofs.YtlideagcmhlkeaaDoor

/- What an era by value and a slice of rules that come in read as (for the cards of chapter 20 and above). -/
namespace Go.Proofs.YtlideagcmhlkeaaDoor
open Go.RowKit Go.ChangeShapes Go.WideShapes
set_option linter.unusedVariables false

section
variable {H : Type} {enc : TypeId × Value → H} {w : World} {base : Nat} {sp : Nat → Bool} {held : Bool}
theorem field_of {P : Program} {t : TypeId} {fs : Array Field} {fuel : Nat} {cs : List Value} {x : DataW H × List MemPlace} (ht : P.underlying t = some (.struct fs)) (h : DataW.trod enc P w base sp held fuel t cs = some x) (i : Nat) (ty : TypeId) (o s : Nat)
    (hf : (fs[i]?).map (fun f => (f.type, f.offset, P.cellsOf f.type)) = some (ty, o, s)) : ∃ n y, DataW.trod enc P w base sp held n ty ((cs.drop o).take s) = some y := by
  obtain ⟨xs, n, _, _, _, hl, hg⟩ := DataW.trod_struct ht h
  cases hq : fs[i]? with
  | none => rw [hq] at hf; cases hf
  | some f =>
    rw [hq] at hf
    simp only [Option.map_some, Option.some.injEq, Prod.mk.injEq] at hf
    obtain ⟨rfl, rfl, rfl⟩ := hf
    have hi : i < xs.length := by rw [hl]; exact (Array.getElem?_eq_some_iff.1 hq).1
    exact ⟨n, xs[i], (hg i f hq).trans (List.getElem?_eq_getElem hi)⟩
theorem leaf_int {P : Program} {t : TypeId} {fs : Array Field} {fuel : Nat} {cs : List Value} {x : DataW H × List MemPlace} (ht : P.underlying t = some (.struct fs)) (h : DataW.trod enc P w base sp held fuel t cs = some x) (i : Nat) (ty : TypeId) (o : Nat) (k : IntKind)
    (hf : (fs[i]?).map (fun f => (f.type, f.offset, P.cellsOf f.type)) = some (ty, o, 1)) (hk : P.underlying ty = some (.int k)) : ∃ n, (cs.drop o).take 1 = [.int k n] ∧ (Lit.int k n).wf = true := by
  obtain ⟨n, y, hy⟩ := field_of ht h i ty o 1 hf
  obtain ⟨z, e, _, hw⟩ := DataW.trod_int hk hy
  exact ⟨z, e, hw⟩
theorem leaf_str {P : Program} {t : TypeId} {fs : Array Field} {fuel : Nat} {cs : List Value} {x : DataW H × List MemPlace} (ht : P.underlying t = some (.struct fs)) (h : DataW.trod enc P w base sp held fuel t cs = some x) (i : Nat) (ty : TypeId) (o : Nat)
    (hf : (fs[i]?).map (fun f => (f.type, f.offset, P.cellsOf f.type)) = some (ty, o, 1)) (hk : P.underlying ty = some .string) : ∃ s : ByteArray, (cs.drop o).take 1 = [.string s] ∧ s.size ≤ maxLen := by
  obtain ⟨n, y, hy⟩ := field_of ht h i ty o 1 hf
  obtain ⟨z, e, _, hw⟩ := DataW.trod_string hk hy
  exact ⟨z, e, hw⟩
theorem leaf_bool {P : Program} {t : TypeId} {fs : Array Field} {fuel : Nat} {cs : List Value} {x : DataW H × List MemPlace} (ht : P.underlying t = some (.struct fs)) (h : DataW.trod enc P w base sp held fuel t cs = some x) (i : Nat) (ty : TypeId) (o : Nat)
    (hf : (fs[i]?).map (fun f => (f.type, f.offset, P.cellsOf f.type)) = some (ty, o, 1)) (hk : P.underlying ty = some .bool) : ∃ b, (cs.drop o).take 1 = [.bool b] := by
  obtain ⟨n, y, hy⟩ := field_of ht h i ty o 1 hf
  obtain ⟨z, e, _⟩ := DataW.trod_bool hk hy
  exact ⟨z, e⟩
/-- a rule's cells -/
theorem open_rule {fuel : Nat} {cs : List Value} {x : DataW H × List MemPlace} (hlen : cs.length = 11) (h : DataW.trod enc Tryd.prog w base sp held fuel 83 cs = some x) : ∃ r : RV, cs = r.cells ∧ (Lit.int .i64 r.save).wf = true := by
  match cs, hlen with
  | [c0, c1, c2, c3, c4, c5, c6, c7, c8, c9, c10], _ =>
    obtain ⟨s0, e0, _⟩ := leaf_str Tryd.underlying83 h 0 9 0 (by kernel_rfl) Tryd.underlying9
    obtain ⟨n1, e1, _⟩ := leaf_int Tryd.underlying83 h 1 3 1 .i64 (by kernel_rfl) Tryd.underlying3
    obtain ⟨n2, e2, _⟩ := leaf_int Tryd.underlying83 h 2 3 2 .i64 (by kernel_rfl) Tryd.underlying3
    obtain ⟨n3, e3, _⟩ := leaf_int Tryd.underlying83 h 3 3 3 .i64 (by kernel_rfl) Tryd.underlying3
    obtain ⟨m, y, hd⟩ := field_of Tryd.underlying83 h 4 41 4 3 (by kernel_rfl)
    obtain ⟨n4, e4, _⟩ := leaf_int Tryd.underlying41 hd 0 3 0 .i64 (by kernel_rfl) Tryd.underlying3
    obtain ⟨n5, e5, _⟩ := leaf_int Tryd.underlying41 hd 1 3 1 .i64 (by kernel_rfl) Tryd.underlying3
    obtain ⟨n6, e6, _⟩ := leaf_int Tryd.underlying41 hd 2 3 2 .i64 (by kernel_rfl) Tryd.underlying3
    obtain ⟨m', y', hc⟩ := field_of Tryd.underlying83 h 5 43 7 2 (by kernel_rfl)
    obtain ⟨n7, e7, _⟩ := leaf_int Tryd.underlying43 hc 0 2 0 .i64 (by kernel_rfl) Tryd.underlying2
    obtain ⟨n8, e8, _⟩ := leaf_int Tryd.underlying43 hc 1 3 1 .i64 (by kernel_rfl) Tryd.underlying3
    obtain ⟨n9, e9, w9⟩ := leaf_int Tryd.underlying83 h 6 2 9 .i64 (by kernel_rfl) Tryd.underlying2
    obtain ⟨s10, e10, _⟩ := leaf_str Tryd.underlying83 h 7 9 10 (by kernel_rfl) Tryd.underlying9
    simp only [List.drop_succ_cons, List.drop_zero, List.take_succ_cons, List.take_zero, List.cons.injEq, and_true] at e0 e1 e2 e3 e4 e5 e6 e7 e8 e9 e10
    subst e0 e1 e2 e3 e4 e5 e6 e7 e8 e9 e10
    exact ⟨⟨s0, n1, n2, n3, n4, n5, n6, n7, n8, n9, s10⟩, rfl, w9⟩
/-- an era by value -/
theorem open_era {fuel : Nat} {cs : List Value} {x : DataW H × List MemPlace} (hlen : cs.length = 13) (h : DataW.trod enc Tryd.prog w base sp held fuel 47 cs = some x) :
    ∃ (off kind save : Int) (set fmt : ByteArray) (ui : Bool) (uy um dk dw dd asec ab : Int), cs = [.int .i64 off, .int .i64 kind, .int .i64 save, .string set, .string fmt, .bool ui, .int .i64 uy, .int .i64 um, .int .i64 dk, .int .i64 dw, .int .i64 dd, .int .i64 asec, .int .i64 ab] ∧
      (Lit.int .i64 off).wf = true ∧ (Lit.int .i64 kind).wf = true ∧ (Lit.int .i64 save).wf = true ∧ set.size ≤ maxLen ∧ fmt.size ≤ maxLen := by
  match cs, hlen with
  | [c0, c1, c2, c3, c4, c5, c6, c7, c8, c9, c10, c11, c12], _ =>
    obtain ⟨n0, e0, w0⟩ := leaf_int Tryd.underlying47 h 0 2 0 .i64 (by kernel_rfl) Tryd.underlying2
    obtain ⟨n1, e1, w1⟩ := leaf_int Tryd.underlying47 h 1 3 1 .i64 (by kernel_rfl) Tryd.underlying3
    obtain ⟨n2, e2, w2⟩ := leaf_int Tryd.underlying47 h 2 2 2 .i64 (by kernel_rfl) Tryd.underlying2
    obtain ⟨s3, e3, w3⟩ := leaf_str Tryd.underlying47 h 3 9 3 (by kernel_rfl) Tryd.underlying9
    obtain ⟨s4, e4, w4⟩ := leaf_str Tryd.underlying47 h 4 9 4 (by kernel_rfl) Tryd.underlying9
    obtain ⟨m, y, hu⟩ := field_of Tryd.underlying47 h 5 45 5 8 (by kernel_rfl)
    obtain ⟨b5, e5⟩ := leaf_bool Tryd.underlying45 hu 0 4 0 (by kernel_rfl) Tryd.underlying4
    obtain ⟨n6, e6, _⟩ := leaf_int Tryd.underlying45 hu 1 3 1 .i64 (by kernel_rfl) Tryd.underlying3
    obtain ⟨n7, e7, _⟩ := leaf_int Tryd.underlying45 hu 2 3 2 .i64 (by kernel_rfl) Tryd.underlying3
    obtain ⟨m', y', hd⟩ := field_of Tryd.underlying45 hu 3 41 3 3 (by kernel_rfl)
    obtain ⟨n8, e8, _⟩ := leaf_int Tryd.underlying41 hd 0 3 0 .i64 (by kernel_rfl) Tryd.underlying3
    obtain ⟨n9, e9, _⟩ := leaf_int Tryd.underlying41 hd 1 3 1 .i64 (by kernel_rfl) Tryd.underlying3
    obtain ⟨n10, e10, _⟩ := leaf_int Tryd.underlying41 hd 2 3 2 .i64 (by kernel_rfl) Tryd.underlying3
    obtain ⟨m'', y'', hc⟩ := field_of Tryd.underlying45 hu 4 43 6 2 (by kernel_rfl)
    obtain ⟨n11, e11, _⟩ := leaf_int Tryd.underlying43 hc 0 2 0 .i64 (by kernel_rfl) Tryd.underlying2
    obtain ⟨n12, e12, _⟩ := leaf_int Tryd.underlying43 hc 1 3 1 .i64 (by kernel_rfl) Tryd.underlying3
    simp only [List.drop_succ_cons, List.drop_zero, List.take_succ_cons, List.take_zero, List.cons.injEq, and_true] at e0 e1 e2 e3 e4 e5 e6 e7 e8 e9 e10 e11 e12
    subst e0 e1 e2 e3 e4 e5 e6 e7 e8 e9 e10 e11 e12
    exact ⟨n0, n1, n2, s3, s4, b5, n6, n7, n8, n9, n10, n11, n12, rfl, w0, w1, w2, w3, w4⟩
end
end Go.Proofs.YtlideagcmhlkeaaDoor

/- The walks of sum, rules and eras of the report and of the reference (chapter 32). -/
namespace Go.Proofs.YtlideagcmhlkeaaDoor
open Go.RowKit
set_option linter.unusedVariables false
attribute [local go_sem high] eql_rule eql_era
theorem guard_rule (op : BinOp) (x y : Operand) (xs ys : Array Value) (w : World) : (eqGuard op 83 x y (.agg xs) (.agg ys)).run Tryd.prog w = .ok () w := run_eqGuard_agg w op _ x y xs ys (by kernel_rfl)
theorem guard_era (op : BinOp) (x y : Operand) (xs ys : Array Value) (w : World) : (eqGuard op 47 x y (.agg xs) (.agg ys)).run Tryd.prog w = .ok () w := run_eqGuard_agg w op _ x y xs ys (by kernel_rfl)
attribute [local go_sem high] guard_rule guard_era

set_option maxHeartbeats 1000000 in
theorem sum_1_00 (B c : Nat) (w : World) (h : ∀ j u, (#[.bool false, .bool false] : Array Value)[j]? = some u → w.cell? ⟨B, j, none⟩ = some u) :
    Calls Tryd.prog 103 #[.int .i64 1, .slice (some ⟨B, 0, none⟩) 2 c] w fun e w' => e = .returned (.int .i64 0) ∧ w = w' := by
  have a0 : w.cell? ⟨B, 0, none⟩ = some (.bool false) := h 0 _ rfl
  have a1 : w.cell? ⟨B, 1, none⟩ = some (.bool false) := h 1 _ rfl
  clear h
  go_enter Tryd.func103, Tryd.ntmps103
  go_wp2_with fail
  go_loop [0, 5, 10] (fun s0 s5 s10 => (s0 = .int .i64 1 ∧ s5 = .int .i64 0 ∧ s10 = .int .i64 0) ∨ (s0 = .int .i64 2 ∧ s5 = .int .i64 0 ∧ s10 = .int .i64 1) ∨ (s0 = .int .i64 4 ∧ s5 = .int .i64 0 ∧ s10 = .int .i64 2)) (fun _ _ i => 2 - (intOf i).toNat)
  case atStart => exact .inl ⟨rfl, rfl, rfl⟩
  case round =>
    rcases hrel with ⟨rfl, rfl, rfl⟩ | ⟨rfl, rfl, rfl⟩ | ⟨rfl, rfl, rfl⟩
    · go_wp2_with fail
      go_round
      case rel => exact (.inr (.inl ⟨rfl, rfl, rfl⟩))
      case measure => simp [intOf]
    · go_wp2_with fail
      go_round
      case rel => exact (.inr (.inr (⟨rfl, rfl, rfl⟩)))
      case measure => simp [intOf]
    · go_wp2_with fail
      go_ret
      exact ⟨rfl, rfl⟩
set_option maxHeartbeats 1000000 in
theorem sum_1_01 (B c : Nat) (w : World) (h : ∀ j u, (#[.bool false, .bool true] : Array Value)[j]? = some u → w.cell? ⟨B, j, none⟩ = some u) :
    Calls Tryd.prog 103 #[.int .i64 1, .slice (some ⟨B, 0, none⟩) 2 c] w fun e w' => e = .returned (.int .i64 2) ∧ w = w' := by
  have a0 : w.cell? ⟨B, 0, none⟩ = some (.bool false) := h 0 _ rfl
  have a1 : w.cell? ⟨B, 1, none⟩ = some (.bool true) := h 1 _ rfl
  clear h
  go_enter Tryd.func103, Tryd.ntmps103
  go_wp2_with fail
  go_loop [0, 5, 10] (fun s0 s5 s10 => (s0 = .int .i64 1 ∧ s5 = .int .i64 0 ∧ s10 = .int .i64 0) ∨ (s0 = .int .i64 2 ∧ s5 = .int .i64 0 ∧ s10 = .int .i64 1) ∨ (s0 = .int .i64 4 ∧ s5 = .int .i64 2 ∧ s10 = .int .i64 2)) (fun _ _ i => 2 - (intOf i).toNat)
  case atStart => exact .inl ⟨rfl, rfl, rfl⟩
  case round =>
    rcases hrel with ⟨rfl, rfl, rfl⟩ | ⟨rfl, rfl, rfl⟩ | ⟨rfl, rfl, rfl⟩
    · go_wp2_with fail
      go_round
      case rel => exact (.inr (.inl ⟨rfl, rfl, rfl⟩))
      case measure => simp [intOf]
    · go_wp2_with fail
      go_round
      case rel => exact (.inr (.inr (⟨rfl, rfl, rfl⟩)))
      case measure => simp [intOf]
    · go_wp2_with fail
      go_ret
      exact ⟨rfl, rfl⟩
set_option maxHeartbeats 1000000 in
theorem sum_1_10 (B c : Nat) (w : World) (h : ∀ j u, (#[.bool true, .bool false] : Array Value)[j]? = some u → w.cell? ⟨B, j, none⟩ = some u) :
    Calls Tryd.prog 103 #[.int .i64 1, .slice (some ⟨B, 0, none⟩) 2 c] w fun e w' => e = .returned (.int .i64 1) ∧ w = w' := by
  have a0 : w.cell? ⟨B, 0, none⟩ = some (.bool true) := h 0 _ rfl
  have a1 : w.cell? ⟨B, 1, none⟩ = some (.bool false) := h 1 _ rfl
  clear h
  go_enter Tryd.func103, Tryd.ntmps103
  go_wp2_with fail
  go_loop [0, 5, 10] (fun s0 s5 s10 => (s0 = .int .i64 1 ∧ s5 = .int .i64 0 ∧ s10 = .int .i64 0) ∨ (s0 = .int .i64 2 ∧ s5 = .int .i64 1 ∧ s10 = .int .i64 1) ∨ (s0 = .int .i64 4 ∧ s5 = .int .i64 1 ∧ s10 = .int .i64 2)) (fun _ _ i => 2 - (intOf i).toNat)
  case atStart => exact .inl ⟨rfl, rfl, rfl⟩
  case round =>
    rcases hrel with ⟨rfl, rfl, rfl⟩ | ⟨rfl, rfl, rfl⟩ | ⟨rfl, rfl, rfl⟩
    · go_wp2_with fail
      go_round
      case rel => exact (.inr (.inl ⟨rfl, rfl, rfl⟩))
      case measure => simp [intOf]
    · go_wp2_with fail
      go_round
      case rel => exact (.inr (.inr (⟨rfl, rfl, rfl⟩)))
      case measure => simp [intOf]
    · go_wp2_with fail
      go_ret
      exact ⟨rfl, rfl⟩
set_option maxHeartbeats 1000000 in
theorem sum_1_11 (B c : Nat) (w : World) (h : ∀ j u, (#[.bool true, .bool true] : Array Value)[j]? = some u → w.cell? ⟨B, j, none⟩ = some u) :
    Calls Tryd.prog 103 #[.int .i64 1, .slice (some ⟨B, 0, none⟩) 2 c] w fun e w' => e = .returned (.int .i64 3) ∧ w = w' := by
  have a0 : w.cell? ⟨B, 0, none⟩ = some (.bool true) := h 0 _ rfl
  have a1 : w.cell? ⟨B, 1, none⟩ = some (.bool true) := h 1 _ rfl
  clear h
  go_enter Tryd.func103, Tryd.ntmps103
  go_wp2_with fail
  go_loop [0, 5, 10] (fun s0 s5 s10 => (s0 = .int .i64 1 ∧ s5 = .int .i64 0 ∧ s10 = .int .i64 0) ∨ (s0 = .int .i64 2 ∧ s5 = .int .i64 1 ∧ s10 = .int .i64 1) ∨ (s0 = .int .i64 4 ∧ s5 = .int .i64 3 ∧ s10 = .int .i64 2)) (fun _ _ i => 2 - (intOf i).toNat)
  case atStart => exact .inl ⟨rfl, rfl, rfl⟩
  case round =>
    rcases hrel with ⟨rfl, rfl, rfl⟩ | ⟨rfl, rfl, rfl⟩ | ⟨rfl, rfl, rfl⟩
    · go_wp2_with fail
      go_round
      case rel => exact (.inr (.inl ⟨rfl, rfl, rfl⟩))
      case measure => simp [intOf]
    · go_wp2_with fail
      go_round
      case rel => exact (.inr (.inr (⟨rfl, rfl, rfl⟩)))
      case measure => simp [intOf]
    · go_wp2_with fail
      go_ret
      exact ⟨rfl, rfl⟩
set_option maxHeartbeats 1000000 in
theorem sum_4_000 (B c : Nat) (w : World) (h : ∀ j u, (#[.bool false, .bool false, .bool false] : Array Value)[j]? = some u → w.cell? ⟨B, j, none⟩ = some u) :
    Calls Tryd.prog 103 #[.int .i64 4, .slice (some ⟨B, 0, none⟩) 3 c] w fun e w' => e = .returned (.int .i64 0) ∧ w = w' := by
  have a0 : w.cell? ⟨B, 0, none⟩ = some (.bool false) := h 0 _ rfl
  have a1 : w.cell? ⟨B, 1, none⟩ = some (.bool false) := h 1 _ rfl
  have a2 : w.cell? ⟨B, 2, none⟩ = some (.bool false) := h 2 _ rfl
  clear h
  go_enter Tryd.func103, Tryd.ntmps103
  go_wp2_with fail
  go_loop [0, 5, 10] (fun s0 s5 s10 => (s0 = .int .i64 4 ∧ s5 = .int .i64 0 ∧ s10 = .int .i64 0) ∨ (s0 = .int .i64 8 ∧ s5 = .int .i64 0 ∧ s10 = .int .i64 1) ∨ (s0 = .int .i64 16 ∧ s5 = .int .i64 0 ∧ s10 = .int .i64 2) ∨ (s0 = .int .i64 32 ∧ s5 = .int .i64 0 ∧ s10 = .int .i64 3)) (fun _ _ i => 3 - (intOf i).toNat)
  case atStart => exact .inl ⟨rfl, rfl, rfl⟩
  case round =>
    rcases hrel with ⟨rfl, rfl, rfl⟩ | ⟨rfl, rfl, rfl⟩ | ⟨rfl, rfl, rfl⟩ | ⟨rfl, rfl, rfl⟩
    · go_wp2_with fail
      go_round
      case rel => exact (.inr (.inl ⟨rfl, rfl, rfl⟩))
      case measure => simp [intOf]
    · go_wp2_with fail
      go_round
      case rel => exact (.inr (.inr (.inl ⟨rfl, rfl, rfl⟩)))
      case measure => simp [intOf]
    · go_wp2_with fail
      go_round
      case rel => exact (.inr (.inr (.inr (⟨rfl, rfl, rfl⟩))))
      case measure => simp [intOf]
    · go_wp2_with fail
      go_ret
      exact ⟨rfl, rfl⟩
set_option maxHeartbeats 1000000 in
theorem sum_4_001 (B c : Nat) (w : World) (h : ∀ j u, (#[.bool false, .bool false, .bool true] : Array Value)[j]? = some u → w.cell? ⟨B, j, none⟩ = some u) :
    Calls Tryd.prog 103 #[.int .i64 4, .slice (some ⟨B, 0, none⟩) 3 c] w fun e w' => e = .returned (.int .i64 16) ∧ w = w' := by
  have a0 : w.cell? ⟨B, 0, none⟩ = some (.bool false) := h 0 _ rfl
  have a1 : w.cell? ⟨B, 1, none⟩ = some (.bool false) := h 1 _ rfl
  have a2 : w.cell? ⟨B, 2, none⟩ = some (.bool true) := h 2 _ rfl
  clear h
  go_enter Tryd.func103, Tryd.ntmps103
  go_wp2_with fail
  go_loop [0, 5, 10] (fun s0 s5 s10 => (s0 = .int .i64 4 ∧ s5 = .int .i64 0 ∧ s10 = .int .i64 0) ∨ (s0 = .int .i64 8 ∧ s5 = .int .i64 0 ∧ s10 = .int .i64 1) ∨ (s0 = .int .i64 16 ∧ s5 = .int .i64 0 ∧ s10 = .int .i64 2) ∨ (s0 = .int .i64 32 ∧ s5 = .int .i64 16 ∧ s10 = .int .i64 3)) (fun _ _ i => 3 - (intOf i).toNat)
  case atStart => exact .inl ⟨rfl, rfl, rfl⟩
  case round =>
    rcases hrel with ⟨rfl, rfl, rfl⟩ | ⟨rfl, rfl, rfl⟩ | ⟨rfl, rfl, rfl⟩ | ⟨rfl, rfl, rfl⟩
    · go_wp2_with fail
      go_round
      case rel => exact (.inr (.inl ⟨rfl, rfl, rfl⟩))
      case measure => simp [intOf]
    · go_wp2_with fail
      go_round
      case rel => exact (.inr (.inr (.inl ⟨rfl, rfl, rfl⟩)))
      case measure => simp [intOf]
    · go_wp2_with fail
      go_round
      case rel => exact (.inr (.inr (.inr (⟨rfl, rfl, rfl⟩))))
      case measure => simp [intOf]
    · go_wp2_with fail
      go_ret
      exact ⟨rfl, rfl⟩
set_option maxHeartbeats 1000000 in
theorem sum_4_010 (B c : Nat) (w : World) (h : ∀ j u, (#[.bool false, .bool true, .bool false] : Array Value)[j]? = some u → w.cell? ⟨B, j, none⟩ = some u) :
    Calls Tryd.prog 103 #[.int .i64 4, .slice (some ⟨B, 0, none⟩) 3 c] w fun e w' => e = .returned (.int .i64 8) ∧ w = w' := by
  have a0 : w.cell? ⟨B, 0, none⟩ = some (.bool false) := h 0 _ rfl
  have a1 : w.cell? ⟨B, 1, none⟩ = some (.bool true) := h 1 _ rfl
  have a2 : w.cell? ⟨B, 2, none⟩ = some (.bool false) := h 2 _ rfl
  clear h
  go_enter Tryd.func103, Tryd.ntmps103
  go_wp2_with fail
  go_loop [0, 5, 10] (fun s0 s5 s10 => (s0 = .int .i64 4 ∧ s5 = .int .i64 0 ∧ s10 = .int .i64 0) ∨ (s0 = .int .i64 8 ∧ s5 = .int .i64 0 ∧ s10 = .int .i64 1) ∨ (s0 = .int .i64 16 ∧ s5 = .int .i64 8 ∧ s10 = .int .i64 2) ∨ (s0 = .int .i64 32 ∧ s5 = .int .i64 8 ∧ s10 = .int .i64 3)) (fun _ _ i => 3 - (intOf i).toNat)
  case atStart => exact .inl ⟨rfl, rfl, rfl⟩
  case round =>
    rcases hrel with ⟨rfl, rfl, rfl⟩ | ⟨rfl, rfl, rfl⟩ | ⟨rfl, rfl, rfl⟩ | ⟨rfl, rfl, rfl⟩
    · go_wp2_with fail
      go_round
      case rel => exact (.inr (.inl ⟨rfl, rfl, rfl⟩))
      case measure => simp [intOf]
    · go_wp2_with fail
      go_round
      case rel => exact (.inr (.inr (.inl ⟨rfl, rfl, rfl⟩)))
      case measure => simp [intOf]
    · go_wp2_with fail
      go_round
      case rel => exact (.inr (.inr (.inr (⟨rfl, rfl, rfl⟩))))
      case measure => simp [intOf]
    · go_wp2_with fail
      go_ret
      exact ⟨rfl, rfl⟩
set_option maxHeartbeats 1000000 in
theorem sum_4_011 (B c : Nat) (w : World) (h : ∀ j u, (#[.bool false, .bool true, .bool true] : Array Value)[j]? = some u → w.cell? ⟨B, j, none⟩ = some u) :
    Calls Tryd.prog 103 #[.int .i64 4, .slice (some ⟨B, 0, none⟩) 3 c] w fun e w' => e = .returned (.int .i64 24) ∧ w = w' := by
  have a0 : w.cell? ⟨B, 0, none⟩ = some (.bool false) := h 0 _ rfl
  have a1 : w.cell? ⟨B, 1, none⟩ = some (.bool true) := h 1 _ rfl
  have a2 : w.cell? ⟨B, 2, none⟩ = some (.bool true) := h 2 _ rfl
  clear h
  go_enter Tryd.func103, Tryd.ntmps103
  go_wp2_with fail
  go_loop [0, 5, 10] (fun s0 s5 s10 => (s0 = .int .i64 4 ∧ s5 = .int .i64 0 ∧ s10 = .int .i64 0) ∨ (s0 = .int .i64 8 ∧ s5 = .int .i64 0 ∧ s10 = .int .i64 1) ∨ (s0 = .int .i64 16 ∧ s5 = .int .i64 8 ∧ s10 = .int .i64 2) ∨ (s0 = .int .i64 32 ∧ s5 = .int .i64 24 ∧ s10 = .int .i64 3)) (fun _ _ i => 3 - (intOf i).toNat)
  case atStart => exact .inl ⟨rfl, rfl, rfl⟩
  case round =>
    rcases hrel with ⟨rfl, rfl, rfl⟩ | ⟨rfl, rfl, rfl⟩ | ⟨rfl, rfl, rfl⟩ | ⟨rfl, rfl, rfl⟩
    · go_wp2_with fail
      go_round
      case rel => exact (.inr (.inl ⟨rfl, rfl, rfl⟩))
      case measure => simp [intOf]
    · go_wp2_with fail
      go_round
      case rel => exact (.inr (.inr (.inl ⟨rfl, rfl, rfl⟩)))
      case measure => simp [intOf]
    · go_wp2_with fail
      go_round
      case rel => exact (.inr (.inr (.inr (⟨rfl, rfl, rfl⟩))))
      case measure => simp [intOf]
    · go_wp2_with fail
      go_ret
      exact ⟨rfl, rfl⟩
set_option maxHeartbeats 1000000 in
theorem sum_4_100 (B c : Nat) (w : World) (h : ∀ j u, (#[.bool true, .bool false, .bool false] : Array Value)[j]? = some u → w.cell? ⟨B, j, none⟩ = some u) :
    Calls Tryd.prog 103 #[.int .i64 4, .slice (some ⟨B, 0, none⟩) 3 c] w fun e w' => e = .returned (.int .i64 4) ∧ w = w' := by
  have a0 : w.cell? ⟨B, 0, none⟩ = some (.bool true) := h 0 _ rfl
  have a1 : w.cell? ⟨B, 1, none⟩ = some (.bool false) := h 1 _ rfl
  have a2 : w.cell? ⟨B, 2, none⟩ = some (.bool false) := h 2 _ rfl
  clear h
  go_enter Tryd.func103, Tryd.ntmps103
  go_wp2_with fail
  go_loop [0, 5, 10] (fun s0 s5 s10 => (s0 = .int .i64 4 ∧ s5 = .int .i64 0 ∧ s10 = .int .i64 0) ∨ (s0 = .int .i64 8 ∧ s5 = .int .i64 4 ∧ s10 = .int .i64 1) ∨ (s0 = .int .i64 16 ∧ s5 = .int .i64 4 ∧ s10 = .int .i64 2) ∨ (s0 = .int .i64 32 ∧ s5 = .int .i64 4 ∧ s10 = .int .i64 3)) (fun _ _ i => 3 - (intOf i).toNat)
  case atStart => exact .inl ⟨rfl, rfl, rfl⟩
  case round =>
    rcases hrel with ⟨rfl, rfl, rfl⟩ | ⟨rfl, rfl, rfl⟩ | ⟨rfl, rfl, rfl⟩ | ⟨rfl, rfl, rfl⟩
    · go_wp2_with fail
      go_round
      case rel => exact (.inr (.inl ⟨rfl, rfl, rfl⟩))
      case measure => simp [intOf]
    · go_wp2_with fail
      go_round
      case rel => exact (.inr (.inr (.inl ⟨rfl, rfl, rfl⟩)))
      case measure => simp [intOf]
    · go_wp2_with fail
      go_round
      case rel => exact (.inr (.inr (.inr (⟨rfl, rfl, rfl⟩))))
      case measure => simp [intOf]
    · go_wp2_with fail
      go_ret
      exact ⟨rfl, rfl⟩
set_option maxHeartbeats 1000000 in
theorem sum_4_101 (B c : Nat) (w : World) (h : ∀ j u, (#[.bool true, .bool false, .bool true] : Array Value)[j]? = some u → w.cell? ⟨B, j, none⟩ = some u) :
    Calls Tryd.prog 103 #[.int .i64 4, .slice (some ⟨B, 0, none⟩) 3 c] w fun e w' => e = .returned (.int .i64 20) ∧ w = w' := by
  have a0 : w.cell? ⟨B, 0, none⟩ = some (.bool true) := h 0 _ rfl
  have a1 : w.cell? ⟨B, 1, none⟩ = some (.bool false) := h 1 _ rfl
  have a2 : w.cell? ⟨B, 2, none⟩ = some (.bool true) := h 2 _ rfl
  clear h
  go_enter Tryd.func103, Tryd.ntmps103
  go_wp2_with fail
  go_loop [0, 5, 10] (fun s0 s5 s10 => (s0 = .int .i64 4 ∧ s5 = .int .i64 0 ∧ s10 = .int .i64 0) ∨ (s0 = .int .i64 8 ∧ s5 = .int .i64 4 ∧ s10 = .int .i64 1) ∨ (s0 = .int .i64 16 ∧ s5 = .int .i64 4 ∧ s10 = .int .i64 2) ∨ (s0 = .int .i64 32 ∧ s5 = .int .i64 20 ∧ s10 = .int .i64 3)) (fun _ _ i => 3 - (intOf i).toNat)
  case atStart => exact .inl ⟨rfl, rfl, rfl⟩
  case round =>
    rcases hrel with ⟨rfl, rfl, rfl⟩ | ⟨rfl, rfl, rfl⟩ | ⟨rfl, rfl, rfl⟩ | ⟨rfl, rfl, rfl⟩
    · go_wp2_with fail
      go_round
      case rel => exact (.inr (.inl ⟨rfl, rfl, rfl⟩))
      case measure => simp [intOf]
    · go_wp2_with fail
      go_round
      case rel => exact (.inr (.inr (.inl ⟨rfl, rfl, rfl⟩)))
      case measure => simp [intOf]
    · go_wp2_with fail
      go_round
      case rel => exact (.inr (.inr (.inr (⟨rfl, rfl, rfl⟩))))
      case measure => simp [intOf]
    · go_wp2_with fail
      go_ret
      exact ⟨rfl, rfl⟩
set_option maxHeartbeats 1000000 in
theorem sum_4_110 (B c : Nat) (w : World) (h : ∀ j u, (#[.bool true, .bool true, .bool false] : Array Value)[j]? = some u → w.cell? ⟨B, j, none⟩ = some u) :
    Calls Tryd.prog 103 #[.int .i64 4, .slice (some ⟨B, 0, none⟩) 3 c] w fun e w' => e = .returned (.int .i64 12) ∧ w = w' := by
  have a0 : w.cell? ⟨B, 0, none⟩ = some (.bool true) := h 0 _ rfl
  have a1 : w.cell? ⟨B, 1, none⟩ = some (.bool true) := h 1 _ rfl
  have a2 : w.cell? ⟨B, 2, none⟩ = some (.bool false) := h 2 _ rfl
  clear h
  go_enter Tryd.func103, Tryd.ntmps103
  go_wp2_with fail
  go_loop [0, 5, 10] (fun s0 s5 s10 => (s0 = .int .i64 4 ∧ s5 = .int .i64 0 ∧ s10 = .int .i64 0) ∨ (s0 = .int .i64 8 ∧ s5 = .int .i64 4 ∧ s10 = .int .i64 1) ∨ (s0 = .int .i64 16 ∧ s5 = .int .i64 12 ∧ s10 = .int .i64 2) ∨ (s0 = .int .i64 32 ∧ s5 = .int .i64 12 ∧ s10 = .int .i64 3)) (fun _ _ i => 3 - (intOf i).toNat)
  case atStart => exact .inl ⟨rfl, rfl, rfl⟩
  case round =>
    rcases hrel with ⟨rfl, rfl, rfl⟩ | ⟨rfl, rfl, rfl⟩ | ⟨rfl, rfl, rfl⟩ | ⟨rfl, rfl, rfl⟩
    · go_wp2_with fail
      go_round
      case rel => exact (.inr (.inl ⟨rfl, rfl, rfl⟩))
      case measure => simp [intOf]
    · go_wp2_with fail
      go_round
      case rel => exact (.inr (.inr (.inl ⟨rfl, rfl, rfl⟩)))
      case measure => simp [intOf]
    · go_wp2_with fail
      go_round
      case rel => exact (.inr (.inr (.inr (⟨rfl, rfl, rfl⟩))))
      case measure => simp [intOf]
    · go_wp2_with fail
      go_ret
      exact ⟨rfl, rfl⟩
set_option maxHeartbeats 1000000 in
theorem sum_4_111 (B c : Nat) (w : World) (h : ∀ j u, (#[.bool true, .bool true, .bool true] : Array Value)[j]? = some u → w.cell? ⟨B, j, none⟩ = some u) :
    Calls Tryd.prog 103 #[.int .i64 4, .slice (some ⟨B, 0, none⟩) 3 c] w fun e w' => e = .returned (.int .i64 28) ∧ w = w' := by
  have a0 : w.cell? ⟨B, 0, none⟩ = some (.bool true) := h 0 _ rfl
  have a1 : w.cell? ⟨B, 1, none⟩ = some (.bool true) := h 1 _ rfl
  have a2 : w.cell? ⟨B, 2, none⟩ = some (.bool true) := h 2 _ rfl
  clear h
  go_enter Tryd.func103, Tryd.ntmps103
  go_wp2_with fail
  go_loop [0, 5, 10] (fun s0 s5 s10 => (s0 = .int .i64 4 ∧ s5 = .int .i64 0 ∧ s10 = .int .i64 0) ∨ (s0 = .int .i64 8 ∧ s5 = .int .i64 4 ∧ s10 = .int .i64 1) ∨ (s0 = .int .i64 16 ∧ s5 = .int .i64 12 ∧ s10 = .int .i64 2) ∨ (s0 = .int .i64 32 ∧ s5 = .int .i64 28 ∧ s10 = .int .i64 3)) (fun _ _ i => 3 - (intOf i).toNat)
  case atStart => exact .inl ⟨rfl, rfl, rfl⟩
  case round =>
    rcases hrel with ⟨rfl, rfl, rfl⟩ | ⟨rfl, rfl, rfl⟩ | ⟨rfl, rfl, rfl⟩ | ⟨rfl, rfl, rfl⟩
    · go_wp2_with fail
      go_round
      case rel => exact (.inr (.inl ⟨rfl, rfl, rfl⟩))
      case measure => simp [intOf]
    · go_wp2_with fail
      go_round
      case rel => exact (.inr (.inr (.inl ⟨rfl, rfl, rfl⟩)))
      case measure => simp [intOf]
    · go_wp2_with fail
      go_round
      case rel => exact (.inr (.inr (.inr (⟨rfl, rfl, rfl⟩))))
      case measure => simp [intOf]
    · go_wp2_with fail
      go_ret
      exact ⟨rfl, rfl⟩
set_option maxRecDepth 100000 in
set_option maxHeartbeats 8000000 in
theorem rules_any (a0 : ByteArray) (a1 : Int) (a2 : Int) (a3 : Int) (a4 : Int) (a5 : Int) (a6 : Int) (a7 : Int) (a8 : Int) (a9 : Int) (a10 : ByteArray) (b0 : ByteArray) (b1 : Int) (b2 : Int) (b3 : Int) (b4 : Int) (b5 : Int) (b6 : Int) (b7 : Int) (b8 : Int) (b9 : Int) (b10 : ByteArray) (D : Int) (hD : (if a9 = b9 then 0 else 1) + (if a7 = b7 then 0 else 2) = D) (w : World) :
    Calls Tryd.prog 73 #[.agg #[.string a0, .int .i64 a1, .int .i64 a2, .int .i64 a3, .int .i64 a4, .int .i64 a5, .int .i64 a6, .int .i64 a7, .int .i64 a8, .int .i64 a9, .string a10], .agg #[.string b0, .int .i64 b1, .int .i64 b2, .int .i64 b3, .int .i64 b4, .int .i64 b5, .int .i64 b6, .int .i64 b7, .int .i64 b8, .int .i64 b9, .string b10]] w fun e w' => e = .returned (.tuple #[.int .i64 D, .bool (decide (a0 = b0 ∧ a1 = b1 ∧ a2 = b2 ∧ a3 = b3 ∧ a4 = b4 ∧ a5 = b5 ∧ a6 = b6 ∧ a8 = b8 ∧ a10 = b10))]) ∧ Below w.heap.size w w' := by
  by_cases h9 : a9 = b9
  · have n9 : (a9 != b9) = false := by simp [h9]
    by_cases h7 : a7 = b7
    · have n7 : (a7 != b7) = false := by simp [h7]
      obtain rfl : D = 0 := by rw [← hD]; simp [h9, h7]
      have cS := Lib.hid (sum_1_00 (w.heap.size + 2) 2 (((w.alloc (.cells #[.string a0, .int .i64 a1, .int .i64 a2, .int .i64 a3, .int .i64 a4, .int .i64 a5, .int .i64 a6, .int .i64 a7, .int .i64 a8, .int .i64 a9, .string a10] 83)).alloc (.cells #[.string b0, .int .i64 b1, .int .i64 b2, .int .i64 b3, .int .i64 b4, .int .i64 b5, .int .i64 b6, .int .i64 b7, .int .i64 b8, .int .i64 b9, .string b10] 83)).alloc (.cells #[.bool false, .bool false] 4)) (fun j u hu => ((Blk.newAt ((w.alloc (.cells #[.string a0, .int .i64 a1, .int .i64 a2, .int .i64 a3, .int .i64 a4, .int .i64 a5, .int .i64 a6, .int .i64 a7, .int .i64 a8, .int .i64 a9, .string a10] 83)).alloc (.cells #[.string b0, .int .i64 b1, .int .i64 b2, .int .i64 b3, .int .i64 b4, .int .i64 b5, .int .i64 b6, .int .i64 b7, .int .i64 b8, .int .i64 b9, .string b10] 83)) (w.heap.size + 2) (by simp) 4 #[.bool false, .bool false]).cell j).trans hu))
      clear h9 h7 hD
      go_enter Tryd.func73, Tryd.ntmps73
      go_wp2_with fail
      refine cS.out.mono ?_
      rintro e w1 ⟨rfl, rfl⟩
      clear cS n9 n7
      go_wp2_with fail
      go_region
      go_wp2_with fail
      go_quiet (fail)
      go_wp2_with fail
      go_ret2
      exact ⟨by simp only [Bool.decide_and] <;> rfl, below_drewN ((((Below.refl w.heap.size w).alloc (Nat.le_refl _) _).alloc (by simp) _).alloc (by simp; omega) _).drew _⟩
    · have n7 : (a7 != b7) = true := by simp [h7]
      obtain rfl : D = 2 := by rw [← hD]; simp [h9, h7]
      have cS := Lib.hid (sum_1_01 (w.heap.size + 2) 2 (((w.alloc (.cells #[.string a0, .int .i64 a1, .int .i64 a2, .int .i64 a3, .int .i64 a4, .int .i64 a5, .int .i64 a6, .int .i64 a7, .int .i64 a8, .int .i64 a9, .string a10] 83)).alloc (.cells #[.string b0, .int .i64 b1, .int .i64 b2, .int .i64 b3, .int .i64 b4, .int .i64 b5, .int .i64 b6, .int .i64 b7, .int .i64 b8, .int .i64 b9, .string b10] 83)).alloc (.cells #[.bool false, .bool true] 4)) (fun j u hu => ((Blk.newAt ((w.alloc (.cells #[.string a0, .int .i64 a1, .int .i64 a2, .int .i64 a3, .int .i64 a4, .int .i64 a5, .int .i64 a6, .int .i64 a7, .int .i64 a8, .int .i64 a9, .string a10] 83)).alloc (.cells #[.string b0, .int .i64 b1, .int .i64 b2, .int .i64 b3, .int .i64 b4, .int .i64 b5, .int .i64 b6, .int .i64 b7, .int .i64 b8, .int .i64 b9, .string b10] 83)) (w.heap.size + 2) (by simp) 4 #[.bool false, .bool true]).cell j).trans hu))
      clear h9 h7 hD
      go_enter Tryd.func73, Tryd.ntmps73
      go_wp2_with fail
      refine cS.out.mono ?_
      rintro e w1 ⟨rfl, rfl⟩
      clear cS n9 n7
      go_wp2_with fail
      go_region
      go_wp2_with fail
      go_quiet (fail)
      go_wp2_with fail
      go_ret2
      exact ⟨by simp only [Bool.decide_and] <;> rfl, below_drewN ((((Below.refl w.heap.size w).alloc (Nat.le_refl _) _).alloc (by simp) _).alloc (by simp; omega) _).drew _⟩
  · have n9 : (a9 != b9) = true := by simp [h9]
    by_cases h7 : a7 = b7
    · have n7 : (a7 != b7) = false := by simp [h7]
      obtain rfl : D = 1 := by rw [← hD]; simp [h9, h7]
      have cS := Lib.hid (sum_1_10 (w.heap.size + 2) 2 (((w.alloc (.cells #[.string a0, .int .i64 a1, .int .i64 a2, .int .i64 a3, .int .i64 a4, .int .i64 a5, .int .i64 a6, .int .i64 a7, .int .i64 a8, .int .i64 a9, .string a10] 83)).alloc (.cells #[.string b0, .int .i64 b1, .int .i64 b2, .int .i64 b3, .int .i64 b4, .int .i64 b5, .int .i64 b6, .int .i64 b7, .int .i64 b8, .int .i64 b9, .string b10] 83)).alloc (.cells #[.bool true, .bool false] 4)) (fun j u hu => ((Blk.newAt ((w.alloc (.cells #[.string a0, .int .i64 a1, .int .i64 a2, .int .i64 a3, .int .i64 a4, .int .i64 a5, .int .i64 a6, .int .i64 a7, .int .i64 a8, .int .i64 a9, .string a10] 83)).alloc (.cells #[.string b0, .int .i64 b1, .int .i64 b2, .int .i64 b3, .int .i64 b4, .int .i64 b5, .int .i64 b6, .int .i64 b7, .int .i64 b8, .int .i64 b9, .string b10] 83)) (w.heap.size + 2) (by simp) 4 #[.bool true, .bool false]).cell j).trans hu))
      clear h9 h7 hD
      go_enter Tryd.func73, Tryd.ntmps73
      go_wp2_with fail
      refine cS.out.mono ?_
      rintro e w1 ⟨rfl, rfl⟩
      clear cS n9 n7
      go_wp2_with fail
      go_region
      go_wp2_with fail
      go_quiet (fail)
      go_wp2_with fail
      go_ret2
      exact ⟨by simp only [Bool.decide_and] <;> rfl, below_drewN ((((Below.refl w.heap.size w).alloc (Nat.le_refl _) _).alloc (by simp) _).alloc (by simp; omega) _).drew _⟩
    · have n7 : (a7 != b7) = true := by simp [h7]
      obtain rfl : D = 3 := by rw [← hD]; simp [h9, h7]
      have cS := Lib.hid (sum_1_11 (w.heap.size + 2) 2 (((w.alloc (.cells #[.string a0, .int .i64 a1, .int .i64 a2, .int .i64 a3, .int .i64 a4, .int .i64 a5, .int .i64 a6, .int .i64 a7, .int .i64 a8, .int .i64 a9, .string a10] 83)).alloc (.cells #[.string b0, .int .i64 b1, .int .i64 b2, .int .i64 b3, .int .i64 b4, .int .i64 b5, .int .i64 b6, .int .i64 b7, .int .i64 b8, .int .i64 b9, .string b10] 83)).alloc (.cells #[.bool true, .bool true] 4)) (fun j u hu => ((Blk.newAt ((w.alloc (.cells #[.string a0, .int .i64 a1, .int .i64 a2, .int .i64 a3, .int .i64 a4, .int .i64 a5, .int .i64 a6, .int .i64 a7, .int .i64 a8, .int .i64 a9, .string a10] 83)).alloc (.cells #[.string b0, .int .i64 b1, .int .i64 b2, .int .i64 b3, .int .i64 b4, .int .i64 b5, .int .i64 b6, .int .i64 b7, .int .i64 b8, .int .i64 b9, .string b10] 83)) (w.heap.size + 2) (by simp) 4 #[.bool true, .bool true]).cell j).trans hu))
      clear h9 h7 hD
      go_enter Tryd.func73, Tryd.ntmps73
      go_wp2_with fail
      refine cS.out.mono ?_
      rintro e w1 ⟨rfl, rfl⟩
      clear cS n9 n7
      go_wp2_with fail
      go_region
      go_wp2_with fail
      go_quiet (fail)
      go_wp2_with fail
      go_ret2
      exact ⟨by simp only [Bool.decide_and] <;> rfl, below_drewN ((((Below.refl w.heap.size w).alloc (Nat.le_refl _) _).alloc (by simp) _).alloc (by simp; omega) _).drew _⟩
set_option maxRecDepth 100000 in
set_option maxHeartbeats 8000000 in
theorem eras_any (a0 : Int) (a1 : Int) (a2 : Int) (a3 : ByteArray) (a4 : ByteArray) (a5 : Bool) (a6 : Int) (a7 : Int) (a8 : Int) (a9 : Int) (a10 : Int) (a11 : Int) (a12 : Int) (b0 : Int) (b1 : Int) (b2 : Int) (b3 : ByteArray) (b4 : ByteArray) (b5 : Bool) (b6 : Int) (b7 : Int) (b8 : Int) (b9 : Int) (b10 : Int) (b11 : Int) (b12 : Int) (D : Int) (hD : (if a0 = b0 then 0 else 4) + (if a4 = b4 then 0 else 8) + (if a11 = b11 then 0 else 16) = D) (w : World) :
    Calls Tryd.prog 76 #[.agg #[.int .i64 a0, .int .i64 a1, .int .i64 a2, .string a3, .string a4, .bool a5, .int .i64 a6, .int .i64 a7, .int .i64 a8, .int .i64 a9, .int .i64 a10, .int .i64 a11, .int .i64 a12], .agg #[.int .i64 b0, .int .i64 b1, .int .i64 b2, .string b3, .string b4, .bool b5, .int .i64 b6, .int .i64 b7, .int .i64 b8, .int .i64 b9, .int .i64 b10, .int .i64 b11, .int .i64 b12]] w fun e w' => e = .returned (.tuple #[.int .i64 D, .bool (decide (a1 = b1 ∧ a2 = b2 ∧ a3 = b3 ∧ a5 = b5 ∧ a6 = b6 ∧ a7 = b7 ∧ a8 = b8 ∧ a9 = b9 ∧ a10 = b10 ∧ a12 = b12))]) ∧ Below w.heap.size w w' := by
  by_cases h0 : a0 = b0
  · have n0 : (a0 != b0) = false := by simp [h0]
    by_cases h4 : a4 = b4
    · have n4 : (a4.toList == b4.toList) = true := by simp [h4]
      have m4 : (a4.toList != b4.toList) = false := by unfold bne; rw [n4]; rfl
      by_cases h11 : a11 = b11
      · have n11 : (a11 != b11) = false := by simp [h11]
        obtain rfl : D = 0 := by rw [← hD]; simp [h0, h4, h11]
        have cS := Lib.hid (sum_4_000 (w.heap.size + 2) 3 (((w.alloc (.cells #[.int .i64 a0, .int .i64 a1, .int .i64 a2, .string a3, .string a4, .bool a5, .int .i64 a6, .int .i64 a7, .int .i64 a8, .int .i64 a9, .int .i64 a10, .int .i64 a11, .int .i64 a12] 47)).alloc (.cells #[.int .i64 b0, .int .i64 b1, .int .i64 b2, .string b3, .string b4, .bool b5, .int .i64 b6, .int .i64 b7, .int .i64 b8, .int .i64 b9, .int .i64 b10, .int .i64 b11, .int .i64 b12] 47)).alloc (.cells #[.bool false, .bool false, .bool false] 4)) (fun j u hu => ((Blk.newAt ((w.alloc (.cells #[.int .i64 a0, .int .i64 a1, .int .i64 a2, .string a3, .string a4, .bool a5, .int .i64 a6, .int .i64 a7, .int .i64 a8, .int .i64 a9, .int .i64 a10, .int .i64 a11, .int .i64 a12] 47)).alloc (.cells #[.int .i64 b0, .int .i64 b1, .int .i64 b2, .string b3, .string b4, .bool b5, .int .i64 b6, .int .i64 b7, .int .i64 b8, .int .i64 b9, .int .i64 b10, .int .i64 b11, .int .i64 b12] 47)) (w.heap.size + 2) (by simp) 4 #[.bool false, .bool false, .bool false]).cell j).trans hu))
        clear h0 h4 h11 hD
        go_enter Tryd.func76, Tryd.ntmps76
        go_wp2_with fail
        refine cS.out.mono ?_
        rintro e w1 ⟨rfl, rfl⟩
        clear cS n0 n4 m4 n11
        go_wp2_with fail
        go_region
        go_wp2_with fail
        go_quiet (fail)
        go_wp2_with fail
        go_ret2
        exact ⟨by simp only [Bool.decide_and] <;> rfl, below_drewN ((((Below.refl w.heap.size w).alloc (Nat.le_refl _) _).alloc (by simp) _).alloc (by simp; omega) _).drew _⟩
      · have n11 : (a11 != b11) = true := by simp [h11]
        obtain rfl : D = 16 := by rw [← hD]; simp [h0, h4, h11]
        have cS := Lib.hid (sum_4_001 (w.heap.size + 2) 3 (((w.alloc (.cells #[.int .i64 a0, .int .i64 a1, .int .i64 a2, .string a3, .string a4, .bool a5, .int .i64 a6, .int .i64 a7, .int .i64 a8, .int .i64 a9, .int .i64 a10, .int .i64 a11, .int .i64 a12] 47)).alloc (.cells #[.int .i64 b0, .int .i64 b1, .int .i64 b2, .string b3, .string b4, .bool b5, .int .i64 b6, .int .i64 b7, .int .i64 b8, .int .i64 b9, .int .i64 b10, .int .i64 b11, .int .i64 b12] 47)).alloc (.cells #[.bool false, .bool false, .bool true] 4)) (fun j u hu => ((Blk.newAt ((w.alloc (.cells #[.int .i64 a0, .int .i64 a1, .int .i64 a2, .string a3, .string a4, .bool a5, .int .i64 a6, .int .i64 a7, .int .i64 a8, .int .i64 a9, .int .i64 a10, .int .i64 a11, .int .i64 a12] 47)).alloc (.cells #[.int .i64 b0, .int .i64 b1, .int .i64 b2, .string b3, .string b4, .bool b5, .int .i64 b6, .int .i64 b7, .int .i64 b8, .int .i64 b9, .int .i64 b10, .int .i64 b11, .int .i64 b12] 47)) (w.heap.size + 2) (by simp) 4 #[.bool false, .bool false, .bool true]).cell j).trans hu))
        clear h0 h4 h11 hD
        go_enter Tryd.func76, Tryd.ntmps76
        go_wp2_with fail
        refine cS.out.mono ?_
        rintro e w1 ⟨rfl, rfl⟩
        clear cS n0 n4 m4 n11
        go_wp2_with fail
        go_region
        go_wp2_with fail
        go_quiet (fail)
        go_wp2_with fail
        go_ret2
        exact ⟨by simp only [Bool.decide_and] <;> rfl, below_drewN ((((Below.refl w.heap.size w).alloc (Nat.le_refl _) _).alloc (by simp) _).alloc (by simp; omega) _).drew _⟩
    · have n4 : (a4.toList == b4.toList) = false := by rw [beq_eq_false_iff_ne]; exact fun q => h4 ((toList_eq_iff _ _).1 q)
      have m4 : (a4.toList != b4.toList) = true := by unfold bne; rw [n4]; rfl
      by_cases h11 : a11 = b11
      · have n11 : (a11 != b11) = false := by simp [h11]
        obtain rfl : D = 8 := by rw [← hD]; simp [h0, h4, h11]
        have cS := Lib.hid (sum_4_010 (w.heap.size + 2) 3 (((w.alloc (.cells #[.int .i64 a0, .int .i64 a1, .int .i64 a2, .string a3, .string a4, .bool a5, .int .i64 a6, .int .i64 a7, .int .i64 a8, .int .i64 a9, .int .i64 a10, .int .i64 a11, .int .i64 a12] 47)).alloc (.cells #[.int .i64 b0, .int .i64 b1, .int .i64 b2, .string b3, .string b4, .bool b5, .int .i64 b6, .int .i64 b7, .int .i64 b8, .int .i64 b9, .int .i64 b10, .int .i64 b11, .int .i64 b12] 47)).alloc (.cells #[.bool false, .bool true, .bool false] 4)) (fun j u hu => ((Blk.newAt ((w.alloc (.cells #[.int .i64 a0, .int .i64 a1, .int .i64 a2, .string a3, .string a4, .bool a5, .int .i64 a6, .int .i64 a7, .int .i64 a8, .int .i64 a9, .int .i64 a10, .int .i64 a11, .int .i64 a12] 47)).alloc (.cells #[.int .i64 b0, .int .i64 b1, .int .i64 b2, .string b3, .string b4, .bool b5, .int .i64 b6, .int .i64 b7, .int .i64 b8, .int .i64 b9, .int .i64 b10, .int .i64 b11, .int .i64 b12] 47)) (w.heap.size + 2) (by simp) 4 #[.bool false, .bool true, .bool false]).cell j).trans hu))
        clear h0 h4 h11 hD
        go_enter Tryd.func76, Tryd.ntmps76
        go_wp2_with fail
        refine cS.out.mono ?_
        rintro e w1 ⟨rfl, rfl⟩
        clear cS n0 n4 m4 n11
        go_wp2_with fail
        go_region
        go_wp2_with fail
        go_quiet (fail)
        go_wp2_with fail
        go_ret2
        exact ⟨by simp only [Bool.decide_and] <;> rfl, below_drewN ((((Below.refl w.heap.size w).alloc (Nat.le_refl _) _).alloc (by simp) _).alloc (by simp; omega) _).drew _⟩
      · have n11 : (a11 != b11) = true := by simp [h11]
        obtain rfl : D = 24 := by rw [← hD]; simp [h0, h4, h11]
        have cS := Lib.hid (sum_4_011 (w.heap.size + 2) 3 (((w.alloc (.cells #[.int .i64 a0, .int .i64 a1, .int .i64 a2, .string a3, .string a4, .bool a5, .int .i64 a6, .int .i64 a7, .int .i64 a8, .int .i64 a9, .int .i64 a10, .int .i64 a11, .int .i64 a12] 47)).alloc (.cells #[.int .i64 b0, .int .i64 b1, .int .i64 b2, .string b3, .string b4, .bool b5, .int .i64 b6, .int .i64 b7, .int .i64 b8, .int .i64 b9, .int .i64 b10, .int .i64 b11, .int .i64 b12] 47)).alloc (.cells #[.bool false, .bool true, .bool true] 4)) (fun j u hu => ((Blk.newAt ((w.alloc (.cells #[.int .i64 a0, .int .i64 a1, .int .i64 a2, .string a3, .string a4, .bool a5, .int .i64 a6, .int .i64 a7, .int .i64 a8, .int .i64 a9, .int .i64 a10, .int .i64 a11, .int .i64 a12] 47)).alloc (.cells #[.int .i64 b0, .int .i64 b1, .int .i64 b2, .string b3, .string b4, .bool b5, .int .i64 b6, .int .i64 b7, .int .i64 b8, .int .i64 b9, .int .i64 b10, .int .i64 b11, .int .i64 b12] 47)) (w.heap.size + 2) (by simp) 4 #[.bool false, .bool true, .bool true]).cell j).trans hu))
        clear h0 h4 h11 hD
        go_enter Tryd.func76, Tryd.ntmps76
        go_wp2_with fail
        refine cS.out.mono ?_
        rintro e w1 ⟨rfl, rfl⟩
        clear cS n0 n4 m4 n11
        go_wp2_with fail
        go_region
        go_wp2_with fail
        go_quiet (fail)
        go_wp2_with fail
        go_ret2
        exact ⟨by simp only [Bool.decide_and] <;> rfl, below_drewN ((((Below.refl w.heap.size w).alloc (Nat.le_refl _) _).alloc (by simp) _).alloc (by simp; omega) _).drew _⟩
  · have n0 : (a0 != b0) = true := by simp [h0]
    by_cases h4 : a4 = b4
    · have n4 : (a4.toList == b4.toList) = true := by simp [h4]
      have m4 : (a4.toList != b4.toList) = false := by unfold bne; rw [n4]; rfl
      by_cases h11 : a11 = b11
      · have n11 : (a11 != b11) = false := by simp [h11]
        obtain rfl : D = 4 := by rw [← hD]; simp [h0, h4, h11]
        have cS := Lib.hid (sum_4_100 (w.heap.size + 2) 3 (((w.alloc (.cells #[.int .i64 a0, .int .i64 a1, .int .i64 a2, .string a3, .string a4, .bool a5, .int .i64 a6, .int .i64 a7, .int .i64 a8, .int .i64 a9, .int .i64 a10, .int .i64 a11, .int .i64 a12] 47)).alloc (.cells #[.int .i64 b0, .int .i64 b1, .int .i64 b2, .string b3, .string b4, .bool b5, .int .i64 b6, .int .i64 b7, .int .i64 b8, .int .i64 b9, .int .i64 b10, .int .i64 b11, .int .i64 b12] 47)).alloc (.cells #[.bool true, .bool false, .bool false] 4)) (fun j u hu => ((Blk.newAt ((w.alloc (.cells #[.int .i64 a0, .int .i64 a1, .int .i64 a2, .string a3, .string a4, .bool a5, .int .i64 a6, .int .i64 a7, .int .i64 a8, .int .i64 a9, .int .i64 a10, .int .i64 a11, .int .i64 a12] 47)).alloc (.cells #[.int .i64 b0, .int .i64 b1, .int .i64 b2, .string b3, .string b4, .bool b5, .int .i64 b6, .int .i64 b7, .int .i64 b8, .int .i64 b9, .int .i64 b10, .int .i64 b11, .int .i64 b12] 47)) (w.heap.size + 2) (by simp) 4 #[.bool true, .bool false, .bool false]).cell j).trans hu))
        clear h0 h4 h11 hD
        go_enter Tryd.func76, Tryd.ntmps76
        go_wp2_with fail
        refine cS.out.mono ?_
        rintro e w1 ⟨rfl, rfl⟩
        clear cS n0 n4 m4 n11
        go_wp2_with fail
        go_region
        go_wp2_with fail
        go_quiet (fail)
        go_wp2_with fail
        go_ret2
        exact ⟨by simp only [Bool.decide_and] <;> rfl, below_drewN ((((Below.refl w.heap.size w).alloc (Nat.le_refl _) _).alloc (by simp) _).alloc (by simp; omega) _).drew _⟩
      · have n11 : (a11 != b11) = true := by simp [h11]
        obtain rfl : D = 20 := by rw [← hD]; simp [h0, h4, h11]
        have cS := Lib.hid (sum_4_101 (w.heap.size + 2) 3 (((w.alloc (.cells #[.int .i64 a0, .int .i64 a1, .int .i64 a2, .string a3, .string a4, .bool a5, .int .i64 a6, .int .i64 a7, .int .i64 a8, .int .i64 a9, .int .i64 a10, .int .i64 a11, .int .i64 a12] 47)).alloc (.cells #[.int .i64 b0, .int .i64 b1, .int .i64 b2, .string b3, .string b4, .bool b5, .int .i64 b6, .int .i64 b7, .int .i64 b8, .int .i64 b9, .int .i64 b10, .int .i64 b11, .int .i64 b12] 47)).alloc (.cells #[.bool true, .bool false, .bool true] 4)) (fun j u hu => ((Blk.newAt ((w.alloc (.cells #[.int .i64 a0, .int .i64 a1, .int .i64 a2, .string a3, .string a4, .bool a5, .int .i64 a6, .int .i64 a7, .int .i64 a8, .int .i64 a9, .int .i64 a10, .int .i64 a11, .int .i64 a12] 47)).alloc (.cells #[.int .i64 b0, .int .i64 b1, .int .i64 b2, .string b3, .string b4, .bool b5, .int .i64 b6, .int .i64 b7, .int .i64 b8, .int .i64 b9, .int .i64 b10, .int .i64 b11, .int .i64 b12] 47)) (w.heap.size + 2) (by simp) 4 #[.bool true, .bool false, .bool true]).cell j).trans hu))
        clear h0 h4 h11 hD
        go_enter Tryd.func76, Tryd.ntmps76
        go_wp2_with fail
        refine cS.out.mono ?_
        rintro e w1 ⟨rfl, rfl⟩
        clear cS n0 n4 m4 n11
        go_wp2_with fail
        go_region
        go_wp2_with fail
        go_quiet (fail)
        go_wp2_with fail
        go_ret2
        exact ⟨by simp only [Bool.decide_and] <;> rfl, below_drewN ((((Below.refl w.heap.size w).alloc (Nat.le_refl _) _).alloc (by simp) _).alloc (by simp; omega) _).drew _⟩
    · have n4 : (a4.toList == b4.toList) = false := by rw [beq_eq_false_iff_ne]; exact fun q => h4 ((toList_eq_iff _ _).1 q)
      have m4 : (a4.toList != b4.toList) = true := by unfold bne; rw [n4]; rfl
      by_cases h11 : a11 = b11
      · have n11 : (a11 != b11) = false := by simp [h11]
        obtain rfl : D = 12 := by rw [← hD]; simp [h0, h4, h11]
        have cS := Lib.hid (sum_4_110 (w.heap.size + 2) 3 (((w.alloc (.cells #[.int .i64 a0, .int .i64 a1, .int .i64 a2, .string a3, .string a4, .bool a5, .int .i64 a6, .int .i64 a7, .int .i64 a8, .int .i64 a9, .int .i64 a10, .int .i64 a11, .int .i64 a12] 47)).alloc (.cells #[.int .i64 b0, .int .i64 b1, .int .i64 b2, .string b3, .string b4, .bool b5, .int .i64 b6, .int .i64 b7, .int .i64 b8, .int .i64 b9, .int .i64 b10, .int .i64 b11, .int .i64 b12] 47)).alloc (.cells #[.bool true, .bool true, .bool false] 4)) (fun j u hu => ((Blk.newAt ((w.alloc (.cells #[.int .i64 a0, .int .i64 a1, .int .i64 a2, .string a3, .string a4, .bool a5, .int .i64 a6, .int .i64 a7, .int .i64 a8, .int .i64 a9, .int .i64 a10, .int .i64 a11, .int .i64 a12] 47)).alloc (.cells #[.int .i64 b0, .int .i64 b1, .int .i64 b2, .string b3, .string b4, .bool b5, .int .i64 b6, .int .i64 b7, .int .i64 b8, .int .i64 b9, .int .i64 b10, .int .i64 b11, .int .i64 b12] 47)) (w.heap.size + 2) (by simp) 4 #[.bool true, .bool true, .bool false]).cell j).trans hu))
        clear h0 h4 h11 hD
        go_enter Tryd.func76, Tryd.ntmps76
        go_wp2_with fail
        refine cS.out.mono ?_
        rintro e w1 ⟨rfl, rfl⟩
        clear cS n0 n4 m4 n11
        go_wp2_with fail
        go_region
        go_wp2_with fail
        go_quiet (fail)
        go_wp2_with fail
        go_ret2
        exact ⟨by simp only [Bool.decide_and] <;> rfl, below_drewN ((((Below.refl w.heap.size w).alloc (Nat.le_refl _) _).alloc (by simp) _).alloc (by simp; omega) _).drew _⟩
      · have n11 : (a11 != b11) = true := by simp [h11]
        obtain rfl : D = 28 := by rw [← hD]; simp [h0, h4, h11]
        have cS := Lib.hid (sum_4_111 (w.heap.size + 2) 3 (((w.alloc (.cells #[.int .i64 a0, .int .i64 a1, .int .i64 a2, .string a3, .string a4, .bool a5, .int .i64 a6, .int .i64 a7, .int .i64 a8, .int .i64 a9, .int .i64 a10, .int .i64 a11, .int .i64 a12] 47)).alloc (.cells #[.int .i64 b0, .int .i64 b1, .int .i64 b2, .string b3, .string b4, .bool b5, .int .i64 b6, .int .i64 b7, .int .i64 b8, .int .i64 b9, .int .i64 b10, .int .i64 b11, .int .i64 b12] 47)).alloc (.cells #[.bool true, .bool true, .bool true] 4)) (fun j u hu => ((Blk.newAt ((w.alloc (.cells #[.int .i64 a0, .int .i64 a1, .int .i64 a2, .string a3, .string a4, .bool a5, .int .i64 a6, .int .i64 a7, .int .i64 a8, .int .i64 a9, .int .i64 a10, .int .i64 a11, .int .i64 a12] 47)).alloc (.cells #[.int .i64 b0, .int .i64 b1, .int .i64 b2, .string b3, .string b4, .bool b5, .int .i64 b6, .int .i64 b7, .int .i64 b8, .int .i64 b9, .int .i64 b10, .int .i64 b11, .int .i64 b12] 47)) (w.heap.size + 2) (by simp) 4 #[.bool true, .bool true, .bool true]).cell j).trans hu))
        clear h0 h4 h11 hD
        go_enter Tryd.func76, Tryd.ntmps76
        go_wp2_with fail
        refine cS.out.mono ?_
        rintro e w1 ⟨rfl, rfl⟩
        clear cS n0 n4 m4 n11
        go_wp2_with fail
        go_region
        go_wp2_with fail
        go_quiet (fail)
        go_wp2_with fail
        go_ret2
        exact ⟨by simp only [Bool.decide_and] <;> rfl, below_drewN ((((Below.refl w.heap.size w).alloc (Nat.le_refl _) _).alloc (by simp) _).alloc (by simp; omega) _).drew _⟩
end Go.Proofs.YtlideagcmhlkeaaDoor
