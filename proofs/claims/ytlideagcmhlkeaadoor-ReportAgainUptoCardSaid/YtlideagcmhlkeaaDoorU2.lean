/- Texts of one proof, one behind the other: Copy28; Plain32e; Set32; Rep32d; Rep32e; Rep32g0. -/
import Derived.Test.YtlideagcmhlkeaaDoorU1
import Derived.Deep.RegionLaw
import Derived.RowKit
import Derived.BigRegion
import Derived.BigQuiet
import Derived.Deep.QuietTactic
import Derived.Deep.RegionHeld3
import Derived.Deep.AppendLies
import Derived.Deep.DrawnRows
import Derived.Deep.DeepCutAuto
import Derived.Deep.CutBlock

/- Copy of the reference of chapter 28: new memory throughout. -/
namespace Go.Proofs.YtlideagcmhlkeaaDoor
open Go.RowKit
set_option linter.unusedVariables false
set_option linter.unusedSimpArgs false

/-- the boxes of the copy: the source, the result, what is copied so far -/
structure Box28 (w W : World) (s : SV) (r z k h : Value) : Prop where
  src : Blk W w.heap.size 32 #[.slice s.rA s.rules.length s.rc, .slice s.zA s.zones.length s.zc, .slice s.kA s.links.length s.kc, .slice s.hA s.shifts.length s.hc]
  res : Blk W (w.heap.size + 1) 32 #[.slice none 0 0, .slice none 0 0, .slice none 0 0, .slice none 0 0]
  own : Blk W (w.heap.size + 1 + 1) 32 #[r, z, k, h]
  bel : Below w.heap.size w W
theorem Box28.below {w W W' : World} {s : SV} {r z k h : Value} (b : Box28 w W s r z k h) (hb : Below W.heap.size W W') : Box28 w W' s r z k h := ⟨b.src.below hb b.src.lt, b.res.below hb b.res.lt, b.own.below hb b.own.lt, b.bel.trans (hb.mono b.bel.size)⟩
theorem Box28.set_ {w W : World} {s : SV} {r z k h : Value} (b : Box28 w W s r z k h) (j : Nat) (u : Value) {r' z' k' h' : Value} (e : #[r, z, k, h].setIfInBounds j u = #[r', z', k', h']) : Box28 w (W.setCell ⟨w.heap.size + 1 + 1, j, none⟩ u) s r' z' k' h' :=
  ⟨b.src.far (by simp; omega) u, b.res.far (by simp) u, e ▸ b.own.set_ j u, b.bel.setCell (by simp; omega) u⟩
theorem box28_new (w : World) (s : SV) : Box28 w (((w.alloc (.cells #[.slice s.rA s.rules.length s.rc, .slice s.zA s.zones.length s.zc, .slice s.kA s.links.length s.kc, .slice s.hA s.shifts.length s.hc] 32)).alloc (.cells #[.slice none 0 0, .slice none 0 0, .slice none 0 0, .slice none 0 0] 32)).alloc (.cells #[.slice none 0 0, .slice none 0 0, .slice none 0 0, .slice none 0 0] 32)) s (.slice none 0 0) (.slice none 0 0) (.slice none 0 0) (.slice none 0 0) :=
  ⟨((Blk.new w _ _).alloc _).alloc _, (Blk.newAt _ (w.heap.size + 1) (by simp) _ _).alloc _, Blk.newAt _ (w.heap.size + 1 + 1) (by simp) _ _, ((((Below.refl _ w).alloc (Nat.le_refl _) _).alloc (by simp) _).alloc (by simp; omega) _)⟩
theorem Box28.grown {w W W' : World} {s : SV} {r z k h : Value} {e2 : TypeId} {n2 s2 : Nat} {v2 : Value} {x2 : List Value} (b : Box28 w W s r z k h) (q : W.ownsRow (w.heap.size + 3) e2 s2 v2 n2 x2) (hg : W.grownBy W' v2.ownBlock) : Box28 w W' s r z k h :=
  ⟨blk_grown b.src q hg (by omega), blk_grown b.res q hg (by omega), blk_grown b.own q hg (by omega), own_grown b.bel q hg b.bel.size (by omega)⟩
set_option maxRecDepth 100000 in
set_option maxHeartbeats 8000000 in
theorem copy28 (s : SV) (w : World) (hS : SrcIn w s) (hf : few s) :
    Calls Tryd.prog 41 #[.agg #[.slice s.rA s.rules.length s.rc, .slice s.zA s.zones.length s.zc, .slice s.kA s.links.length s.kc, .slice s.hA s.shifts.length s.hc]] w fun e W => ∃ t : SV, e = .returned (.agg #[.slice t.rA t.rules.length t.rc, .slice t.zA t.zones.length t.zc, .slice t.kA t.links.length t.kc, .slice t.hA t.shifts.length t.hc]) ∧ CopyOf W w.heap.size s t ∧ Below w.heap.size w W := by
  have HS := Lib.hid hS; have HF := Lib.hid hf
  clear hS hf
  obtain ⟨i0, hi, hz0, hz1, hz2⟩ := info_parts infoRuleC
  have hB := box28_new w s
  have hsz : (((w.alloc (.cells #[.slice s.rA s.rules.length s.rc, .slice s.zA s.zones.length s.zc, .slice s.kA s.links.length s.kc, .slice s.hA s.shifts.length s.hc] 32)).alloc (.cells #[.slice none 0 0, .slice none 0 0, .slice none 0 0, .slice none 0 0] 32)).alloc (.cells #[.slice none 0 0, .slice none 0 0, .slice none 0 0, .slice none 0 0] 32)).heap.size = w.heap.size + 3 := by simp
  have HB := Lib.hid hB; have HSZ := Lib.hid hsz
  have HIN := Lib.hid (in_news len_rule (by decide) (HS.out.rules.below (HB.out.bel)))
  clear hB hsz
  go_enter Tryd.func41, Tryd.ntmps41
  go_wp2_with (at_builtin; refine wpList_append_copy rfl _ _ 27 rfl (w.heap.size + 3) 83 i0 _ 11 104 Tryd.underlying27 hi hz0 hz1 hz2 rfl (by decide) rfl s.rA s.rules.length s.rc (s.rules.flatMap RV.cells) rfl (fl_len len_rule _) HIN.out (one_fl one_rule _) (by have := HF.out.1; simp only [maxLen]; omega) (by have := HF.out.1; omega) (by rw [HSZ.out]; exact Nat.le_refl _) ?_)
  intro rA rc wa hown hgr
  have hbl := grown_below hgr
  have HR := Lib.hid (show RowOf wa (w.heap.size + 3) 83 11 RV.cells rA rc s.rules from hown)
  have HB1 := Lib.hid (HB.out.below hbl)
  have c0 := (HB1.out.own.cell 0).trans rfl
  have f0 := HB1.out.own.frozen 0
  have HB2 := Lib.hid (HB1.out.set_ 0 (.slice rA s.rules.length rc) rfl)
  have HR2 := Lib.hid (show RowOf (wa.setCell ⟨w.heap.size + 1 + 1, 0, none⟩ (.slice rA s.rules.length rc)) (w.heap.size + 3) 83 11 RV.cells rA rc s.rules from own_farj HR.out _ 0 (by omega) _)
  have hle : s.zones.length ≤ 10 := HF.out.2.1
  have hle2 : (s.zones.length : Int) ≤ 10 := by omega
  clear hown hgr hbl HIN HSZ HB hi hz0 hz1 hz2 HR HB1
  go_wp2_with fail
  clear c0 f0
  go_loopw [4] (fun i W => ∃ k : Nat, k ≤ s.zones.length ∧ i = .int .i64 k ∧ ∃ zA zc Y, Box28 w W s (.slice rA s.rules.length rc) (.slice zA (List.length Y) zc) (.slice none 0 0) (.slice none 0 0) ∧ RowOf W (w.heap.size + 3) 83 11 RV.cells rA rc s.rules ∧ RowOf W (w.heap.size + 3) 39 2 ZV.cells zA zc Y ∧ ZonesIn W (w.heap.size + 3) (s.zones.take k) Y) (fun i _ => s.zones.length - (intOf i).toNat)
  case atStart => exact ⟨0, Nat.zero_le _, rfl, none, 0, [], HB2.out, HR2.out, World.ownsRow_nil .., ⟨rfl, fun i z y h => by simp at h⟩, fun i y h => by simp at h, fun i j y z _ h => by simp at h⟩
  case round =>
    clear HB2 HR2
    obtain ⟨k, hk, rfl, zA, zc, Y, hbx, hrr, hrz, hzi⟩ := hrel
    have c1 := (hbx.src.cell 1).trans rfl
    have HBX := Lib.hid hbx; have HRR := Lib.hid hrr; have HRZ := Lib.hid hrz; have HZI := Lib.hid hzi
    clear hbx hrr hrz hzi
    by_cases hlt : k < s.zones.length
    · have hki : (k : Int) < (s.zones.length : Int) := by omega
      have hk0 : (0 : Int) ≤ (k : Int) := by omega
      obtain ⟨z, hz⟩ : ∃ z, s.zones[k]? = some z := ⟨_, List.getElem?_eq_getElem hlt⟩
      obtain ⟨gz, oz, hzA, hgz, haz⟩ := (HS.out.zones.below HBX.out.bel) k z hz
      rw [hzA] at c1
      have n0 : wr.cell? ⟨gz, oz + k * 2, none⟩ = some (.string z.name) := haz 0 _ rfl
      have n1 : wr.cell? ⟨gz, oz + k * 2 + 1, none⟩ = some (.slice z.A z.eras.length z.c) := haz 1 _ rfl
      have HER := Lib.hid ((HS.out.eras z (List.mem_of_getElem? hz)).below HBX.out.bel)
      have HE20 := Lib.hid (HF.out.2.2.2.2 z (List.mem_of_getElem? hz))
      have HKZ := Lib.hid hz; have HZA := Lib.hid hzA
      have hlt2 := Lib.hid hlt
      have hws : w.heap.size < wr.heap.size := HBX.out.src.lt
      have HNW := Lib.hid (fun W (h : Below wr.heap.size wr W) => in_news len_era (by decide) (HER.out.below h))
      have nb := Blk.new wr 39 #[.string z.name, .slice none 0 0]
      have HNB := Lib.hid nb
      have b1 := (nb.cell 1).trans rfl
      have hal := (Below.refl wr.heap.size wr).alloc (Nat.le_refl _) (.cells #[.string z.name, .slice none 0 0] 39)
      have HAL := Lib.hid hal
      have m1 := (hal.cell (p := ⟨gz, oz + k * 2 + 1, none⟩) hgz).trans n1
      have d1 := (hal.cell (p := ⟨w.heap.size, 1, none⟩) hws).trans c1
      obtain ⟨i1, hi, hz0, hz1, hz2⟩ := info_parts infoEra
      clear haz hz hlt hzA nb hal
      go_wp2_with fail
      go_region_law (first | (refine step_append_copy (by rfl) _ _ _ (by rfl) (wr.heap.size + 1) 47 i1 _ 13 120 Tryd.underlying37 hi hz0 hz1 hz2 rfl (by decide) (by rfl) z.A z.eras.length z.c (z.eras.flatMap EV.cells) (by rfl) (fl_len len_era _) (HNW.out _ (by first | exact HAL.out | exact HAL.out.drew | exact below_drewN HAL.out _)) (one_fl one_era _) (by have := HE20.out; simp only [maxLen]; omega) (by have := HE20.out; omega) (by simp) ?_; intro eA ec wb hown hgr; have hbl := grown_below hgr; have b2 := (((blk_drew1 HNB.out).below hbl (by simp)).cell 1).trans rfl; have f2 := ((blk_drew1 HNB.out).below hbl (by simp)).frozen 1))
      all_goals
        have hfin := ((HAL.out.drew).trans (hbl.mono (by simp))).setCell (p := ⟨wr.heap.size, 1, none⟩) (Nat.le_refl _) (.slice eA z.eras.length ec)
        have hrow := own_farj hown wr.heap.size 1 (by omega) (.slice eA z.eras.length ec)
        have hzb := ((blk_drew1 HNB.out).below hbl (by simp)).set_ 1 (.slice eA z.eras.length ec)
        have HFIN := Lib.hid hfin; have HROW := Lib.hid hrow; have HZB := Lib.hid hzb
        clear hbl hown hgr b1 b2 f2 m1 d1 n0 n1 c1 HNB HAL HNW HER hi hz0 hz1 hz2 hfin hrow hzb
      all_goals
        generalize wb.setCell ⟨wr.heap.size, 1, none⟩ (.slice eA z.eras.length ec) = W5 at HFIN HROW HZB ⊢
        have HSIZ := Lib.hid (show w.heap.size + 3 ≤ wr.heap.size from HBX.out.own.lt)
        have hb5 := HBX.out.below HFIN.out
        have HB5 := Lib.hid hb5
        have HRR5 := Lib.hid (HRR.out.below HFIN.out)
        have HZI5 := Lib.hid (zones_snoc HZI.out HKZ.out HFIN.out HSIZ.out HROW.out)
        have hal := (Below.refl W5.heap.size W5).alloc (Nat.le_refl _) (.cells #[.string z.name, .slice eA z.eras.length ec] 39)
        have HO := Lib.hid ((HRZ.out.below HFIN.out).below hal)
        have HAL := Lib.hid hal
        have HNB2 := Lib.hid (Blk.new W5 39 #[.string z.name, .slice eA z.eras.length ec])
        have HYL : Hid (Y.length ≤ 10) := Lib.hid (by have h1 := HZI.out.same.1; rw [List.length_take] at h1; omega)
        have z0 := (HZB.out.cell 0).trans rfl
        have z1 := (HZB.out.cell 1).trans rfl
        have o1 := (hb5.own.cell 1).trans rfl
        obtain ⟨i2, hi, hz0, hz1, hz2⟩ := info_parts infoZone
        have HSB := Lib.hid (show w.heap.size + 3 ≤ (W5.alloc (.cells #[.string z.name, .slice eA z.eras.length ec] 39)).heap.size by have h1 := HSIZ.out; have h2 := HFIN.out.size; simp; omega)
        clear hb5 hal HBX HRR HRZ HZI HZB HROW HFIN HKZ
        go_wp2_with (at_builtin; refine wpList_append_own _ rfl _ _ 28 rfl (w.heap.size + 3) 39 i2 _ 2 40 Tryd.underlying28 hi hz0 hz1 hz2 rfl (by decide) _ _ _ rfl HO.out ⟨W5.heap.size, 0, none⟩ 1 1 [.string z.name, .slice eA z.eras.length ec] rfl rfl (blk_cells HNB2.out) (by simp [Value.oneCell']) (by have := HYL.out; simp only [maxLen]; omega) (by have := HYL.out; omega) HSB.out ?_)
        intro v1 W6 hown hgr hne
        obtain ⟨zA', zc', rfl⟩ := row_is hown
        have HB6 := Lib.hid ((HB5.out.below HAL.out).grown HO.out hgr)
        have HRR6 := Lib.hid (show RowOf W6 (w.heap.size + 3) 83 11 RV.cells rA rc s.rules from row_other (HRR5.out.below HAL.out) HO.out (by decide) hgr)
        have HZI6 := Lib.hid ((HZI5.out.below HAL.out).other HO.out (by decide) hgr)
        have HRZ6 := Lib.hid (show RowOf W6 (w.heap.size + 3) 39 2 ZV.cells zA' zc' (Y ++ [⟨z.name, eA, ec, z.eras⟩]) from by
          unfold RowOf
          rw [List.length_append, List.flatMap_append]
          exact hown)
        have o2 := (HB6.out.own.cell 1).trans rfl
        have f2 := HB6.out.own.frozen 1
        clear hown hgr hne HO HAL HNB2 HYL HSB HB5 HRR5 HZI5 z0 z1 o1
        go_wp2_with fail
        go_roundw
        case rel => exact ⟨k + 1, by have := hlt2.out; omega, by go_num, zA', zc', Y ++ ([⟨z.name, eA, ec, z.eras⟩] : List ZV), HB6.out.set_ 1 _ (by rw [List.length_append]; rfl), HRR6.out.farj _ 1 (by omega) _, HRZ6.out.farj _ 1 (by omega) _, HZI6.out.farj _ 1 (by omega) _⟩
        case measure => have := hlt2.out; simp [intOf]; omega
    · obtain rfl : k = s.zones.length := by omega
      have hzi := HZI.out
      rw [List.take_length] at hzi
      have HZ := Lib.hid hzi
      have HSB := Lib.hid (show w.heap.size + 3 ≤ wr.heap.size from HBX.out.own.lt)
      have s2 := (HBX.out.src.cell 2).trans rfl
      have o2 := (HBX.out.own.cell 2).trans rfl
      have HIN := Lib.hid (in_news len_link (by decide) (HS.out.links.below (HBX.out.bel)))
      obtain ⟨i1, hi, hz0, hz1, hz2⟩ := info_parts infoLink
      clear hzi HZI
      go_wp2_with (at_builtin; refine wpList_append_copy rfl _ _ 29 rfl (w.heap.size + 3) 94 i1 _ 2 32 Tryd.underlying29 hi hz0 hz1 hz2 rfl (by decide) rfl s.kA s.links.length s.kc (s.links.flatMap KV.cells) rfl (fl_len len_link _) HIN.out (one_fl one_link _) (by have := HF.out.2.2.1; simp only [maxLen]; omega) (by have := HF.out.2.2.1; omega) HSB.out ?_)
      intro kA kc wl hown hgr
      have hbl := grown_below hgr
      have hb2 := HBX.out.below hbl
      have c2 := (hb2.own.cell 2).trans rfl
      have f2 := hb2.own.frozen 2
      have HBL := Lib.hid (hb2.set_ 2 (.slice kA s.links.length kc) rfl)
      have HRL := Lib.hid ((HRR.out.below hbl).farj (w.heap.size + 1 + 1) 2 (by omega) (.slice kA s.links.length kc))
      have HZL := Lib.hid ((HZ.out.below hbl).farj (w.heap.size + 1 + 1) 2 (by omega) (.slice kA s.links.length kc))
      have HYL := Lib.hid ((HRZ.out.below hbl).farj (w.heap.size + 1 + 1) 2 (by omega) (.slice kA s.links.length kc))
      have HKL := Lib.hid ((show RowOf wl (w.heap.size + 3) 94 2 KV.cells kA kc s.links from hown).farj (w.heap.size + 1 + 1) 2 (by omega) (.slice kA s.links.length kc))
      have HSL := Lib.hid (show w.heap.size + 3 ≤ (wl.setCell ⟨w.heap.size + 1 + 1, 2, none⟩ (.slice kA s.links.length kc)).heap.size from HBL.out.own.lt)
      have HIL := Lib.hid (in_news (f := fun b : ByteArray => [Value.string b]) (m := 1) (fun _ => rfl) (by decide) (HS.out.shifts.below (HBL.out.bel)))
      have s3 := (HBL.out.src.cell 3).trans rfl
      have o3 := (HBL.out.own.cell 3).trans rfl
      have HL1 := Lib.hid (fl_len (f := fun b : ByteArray => [Value.string b]) (m := 1) (fun _ => rfl) s.shifts)
      have H1S := Lib.hid (one_fl (f := fun b : ByteArray => [Value.string b]) (fun a u hu => by rw [List.mem_singleton.1 hu]; rfl) s.shifts)
      obtain ⟨i3, hi3, hy0, hy1, hy2⟩ := info_parts infoStrC
      clear hown hgr hbl hb2 HIN HSB HBX HRR HRZ HZ s2 o2 hi hz0 hz1 hz2 c1
      go_wp2_with (at_builtin; refine wpList_append_copy rfl _ _ 30 rfl (w.heap.size + 3) 9 i3 _ 1 16 Tryd.underlying30 hi3 hy0 hy1 hy2 rfl (by decide) rfl s.hA s.shifts.length s.hc (s.shifts.flatMap fun b : ByteArray => [Value.string b]) rfl HL1.out HIL.out H1S.out (by have := HF.out.2.2.2.1; simp only [maxLen]; omega) (by have := HF.out.2.2.2.1; omega) HSL.out ?_)
      intro hA hc wh hown hgr
      have hbl := grown_below hgr
      have hb2 := HBL.out.below hbl
      have c3 := (hb2.own.cell 3).trans rfl
      have f3 := hb2.own.frozen 3
      have HBH := Lib.hid (hb2.set_ 3 (.slice hA s.shifts.length hc) rfl)
      have HRH := Lib.hid ((HRL.out.below hbl).farj (w.heap.size + 1 + 1) 3 (by omega) (.slice hA s.shifts.length hc))
      have HZH := Lib.hid ((HZL.out.below hbl).farj (w.heap.size + 1 + 1) 3 (by omega) (.slice hA s.shifts.length hc))
      have HYH := Lib.hid ((HYL.out.below hbl).farj (w.heap.size + 1 + 1) 3 (by omega) (.slice hA s.shifts.length hc))
      have HKH := Lib.hid ((HKL.out.below hbl).farj (w.heap.size + 1 + 1) 3 (by omega) (.slice hA s.shifts.length hc))
      have HHH := Lib.hid ((show RowOf wh (w.heap.size + 3) 9 1 (fun b : ByteArray => [Value.string b]) hA hc s.shifts from hown).farj (w.heap.size + 1 + 1) 3 (by omega) (.slice hA s.shifts.length hc))
      have p0 := (HBH.out.own.cell 0).trans rfl
      have p1 := (HBH.out.own.cell 1).trans rfl
      have p2 := (HBH.out.own.cell 2).trans rfl
      have p3 := (HBH.out.own.cell 3).trans rfl
      have r0 := (HBH.out.res.cell 0).trans rfl
      have r1 := (HBH.out.res.cell 1).trans rfl
      have r2 := (HBH.out.res.cell 2).trans rfl
      have r3 := (HBH.out.res.cell 3).trans rfl
      have g0 := HBH.out.res.frozen 0
      have g1 := HBH.out.res.frozen 1
      have g2 := HBH.out.res.frozen 2
      have g3 := HBH.out.res.frozen 3
      clear hown hgr hbl hb2 HIL HSL HBL HRL HYL HZL HKL s3 o3 hi3 hy0 hy1 hy2 c2 f2
      have HRES := Lib.hid ((((HBH.out.res.set_ 0 (.slice rA s.rules.length rc)).set_ 1 (.slice zA Y.length zc)).set_ 2 (.slice kA s.links.length kc)).set_ 3 (.slice hA s.shifts.length hc))
      have k0 := (HRES.out.cell 0).trans rfl
      have k1 := (HRES.out.cell 1).trans rfl
      have k2 := (HRES.out.cell 2).trans rfl
      have k3 := (HRES.out.cell 3).trans rfl
      go_wp2_with fail
      refine bodyPost_ret (v := .agg #[.slice rA s.rules.length rc, .slice zA Y.length zc, .slice kA s.links.length kc, .slice hA s.shifts.length hc]) (by simp [results, Tryd.results41, go_sem, k0, k1, k2, k3]) rfl ?_
      refine ⟨⟨rA, rc, s.rules, zA, zc, Y, kA, kc, s.links, hA, hc, s.shifts⟩, rfl, ?_, ?_⟩
      · have st := fun {α : Type} {e : TypeId} {m : Nat} {f : α → List Value} {A : Option Addr} {c : Nat} {L : List α} (h : RowOf (wh.setCell ⟨w.heap.size + 1 + 1, 3, none⟩ (.slice hA s.shifts.length hc)) (w.heap.size + 3) e m f A c L) => ((((h.farj (w.heap.size + 1) 0 (by omega) (.slice rA s.rules.length rc)).farj (w.heap.size + 1) 1 (by omega) (.slice zA Y.length zc)).farj (w.heap.size + 1) 2 (by omega) (.slice kA s.links.length kc)).farj (w.heap.size + 1) 3 (by omega) (.slice hA s.shifts.length hc))
        exact ⟨⟨rfl, own_base (st HRH.out) (by omega)⟩, ⟨own_base (st HYH.out) (by omega), ((((HZH.out.farj (w.heap.size + 1) 0 (by omega) (.slice rA s.rules.length rc)).farj (w.heap.size + 1) 1 (by omega) (.slice zA Y.length zc)).farj (w.heap.size + 1) 2 (by omega) (.slice kA s.links.length kc)).farj (w.heap.size + 1) 3 (by omega) (.slice hA s.shifts.length hc)).base_le (by omega)⟩, ⟨rfl, own_base (st HKH.out) (by omega)⟩, ⟨rfl, own_base (st HHH.out) (by omega)⟩⟩
      · exact (((HBH.out.bel.setCell (p := ⟨w.heap.size + 1, 0, none⟩) (by simp) _).setCell (p := ⟨w.heap.size + 1, 1, none⟩) (by simp) _).setCell (p := ⟨w.heap.size + 1, 2, none⟩) (by simp) _).setCell (p := ⟨w.heap.size + 1, 3, none⟩) (by simp) _
end Go.Proofs.YtlideagcmhlkeaaDoor

/- Sources that are changed in some places, and what differs then (ReportAgain). No function of the program. -/
namespace Go.Proofs.YtlideagcmhlkeaaDoor.P32
open Go.Proofs.YtlideagcmhlkeaaDoor Go.RowKit
set_option linter.unusedVariables false

theorem diffR_symm (a b : RV) : diffR a b = diffR b a := by unfold diffR; simp only [eq_comm]
theorem diffE_symm (a b : EV) : diffE a b = diffE b a := by unfold diffE; simp only [eq_comm]
theorem diffR_self (a : RV) : diffR a a = 0 := by simp [diffR]
theorem diffE_self (a : EV) : diffE a a = 0 := by simp [diffE]
theorem sameR_symm (a b : RV) : sameR a b = sameR b a := by unfold sameR; simp only [eq_comm]
theorem sameE_symm (a b : EV) : sameE a b = sameE b a := by unfold sameE; simp only [eq_comm]
theorem sameR_self (a : RV) : sameR a a = true := by simp [sameR]
theorem sameE_self (a : EV) : sameE a a = true := by simp [sameE]
/-- only the first k elements count -/
theorem ch_congr {α : Type} {diff : α → α → Int} {mk : Nat → Int → CV} {A B B' : List α} {k : Nat} (h : ∀ i, i < k → B[i]? = B'[i]?) : ch diff mk A B k = ch diff mk A B' k := by
  induction k with
  | zero => rfl
  | succ k ih =>
    have e := ih (fun i hi => h i (by omega))
    unfold ch at e ⊢
    rw [List.range_succ, List.filterMap_append, List.filterMap_append, e]
    congr 1
    simp only [List.filterMap_cons, List.filterMap_nil, h k (by omega)]
theorem ch_set {α : Type} (diff : α → α → Int) (mk : Nat → Int → CV) (A B : List α) (k : Nat) (y : α) : ch diff mk A (B.set k y) k = ch diff mk A B k :=
  ch_congr fun i hi => by rw [List.getElem?_set_ne (by omega)]
theorem ch_symm {α : Type} {diff : α → α → Int} (hd : ∀ a b, diff a b = diff b a) (mk : Nat → Int → CV) (A B : List α) (k : Nat) : ch diff mk A B k = ch diff mk B A k := by
  unfold ch
  congr 1
  funext i
  cases A[i]? <;> cases B[i]? <;> simp [hd]
theorem ch_self {α : Type} {diff : α → α → Int} (hd : ∀ a, diff a a = 0) (mk : Nat → Int → CV) (A : List α) (k : Nat) : ch diff mk A A k = [] := by
  unfold ch
  rw [List.filterMap_eq_nil_iff]
  intro i _
  cases A[i]? <;> simp [hd]
theorem okAll_symm {α : Type} {same : α → α → Bool} (hs : ∀ a b, same a b = same b a) {A B : List α} (h : okAll same A B) : okAll same B A :=
  ⟨h.1.symm, fun i a b hi ha hb => by rw [hs]; exact h.2 i b a (by rw [h.1]; exact hi) hb ha⟩
theorem okAll_self {α : Type} {same : α → α → Bool} (hs : ∀ a, same a a = true) (A : List α) : okAll same A A := ⟨rfl, fun i a b _ ha hb => by rw [ha] at hb; injection hb with e; rw [e]; exact hs b⟩
theorem okS_symm {a b : SV} (h : okS a b) : okS b a :=
  ⟨okAll_symm sameR_symm h.1, h.2.1.symm, fun i z y hi hz hy => by
    have q := h.2.2.1 i y z (by rw [h.2.1]; exact hi) hy hz
    exact ⟨q.1.symm, okAll_symm sameE_symm q.2⟩, h.2.2.2.symm⟩
theorem okS_self (a : SV) : okS a a := ⟨okAll_self sameR_self _, rfl, fun i z y _ hz hy => by rw [hz] at hy; injection hy with e; subst e; exact ⟨rfl, okAll_self sameE_self _⟩, rfl⟩
theorem chZ_symm {Z Y : List ZV} (hl : Z.length = Y.length) (h : okZ Z Y Z.length) : ∀ n, n ≤ Z.length → chZ Z Y n = chZ Y Z n
  | 0, _ => rfl
  | n + 1, hn => by
    rw [chZ, chZ, chZ_symm hl h n (by omega)]
    obtain ⟨z, hz⟩ : ∃ z, Z[n]? = some z := ⟨_, List.getElem?_eq_getElem (by omega)⟩
    obtain ⟨y, hy⟩ : ∃ y, Y[n]? = some y := ⟨_, List.getElem?_eq_getElem (by omega)⟩
    rw [hz, hy]
    have q := (h n z y (by omega) hz hy).2
    simp only
    rw [ch_symm diffE_symm, q.1]
theorem chZ_self (Z : List ZV) : ∀ n, chZ Z Z n = []
  | 0 => rfl
  | n + 1 => by
    rw [chZ, chZ_self Z n]
    cases Z[n]? with
    | none => rfl
    | some z => simp only [List.nil_append]; exact ch_self diffE_self _ _ _
theorem chS_symm {a b : SV} (h : okS a b) : chS b a = chS a b := by
  unfold chS
  rw [ch_symm diffR_symm mkR b.rules, ← h.1.1, ← h.2.1, chZ_symm h.2.1 h.2.2.1 _ (Nat.le_refl _)]
theorem chS_self (a : SV) : chS a a = [] := by unfold chS; rw [ch_self diffR_self, chZ_self]; rfl
/-- a rule that is changed as a number from 0 to 3 says -/
def newR (d w : Int) (r : RV) : RV := { r with save := if w % 2 = 1 then wrap64 (r.save + d) else r.save, asec := if w / 2 % 2 = 1 then wrap64 (r.asec + d) else r.asec }
theorem newR_diff {d w : Int} (h0 : d ≠ 0) (h1 : -9223372036854775808 ≤ d ∧ d ≤ 9223372036854775807) (hw : 0 ≤ w ∧ w ≤ 3) (r : RV) : diffR r (newR d w r) = w ∧ sameR r (newR d w r) = true := by
  have n1 : ∀ x : Int, x ≠ wrap64 (x + d) := fun x => by unfold wrap64; omega
  refine ⟨?_, by simp [sameR, newR]⟩
  unfold diffR newR
  simp only
  rcases (show w = 0 ∨ w = 1 ∨ w = 2 ∨ w = 3 by omega) with rfl | rfl | rfl | rfl <;> simp [n1]
/-- an era that is changed as four times a number from 0 to 7 says -/
def newE (d w : Int) (e : EV) : EV := { e with off := if w / 4 % 2 = 1 then wrap64 (e.off + d) else e.off, fmt := if w / 8 % 2 = 1 then e.fmt ++ ⟨#[120]⟩ else e.fmt, asec := if w / 16 % 2 = 1 then wrap64 (e.asec + d) else e.asec }
theorem newE_diff {d w : Int} (h0 : d ≠ 0) (h1 : -9223372036854775808 ≤ d ∧ d ≤ 9223372036854775807) (m : Int) (hm : 0 ≤ m ∧ m ≤ 7) (hw : w = m * 4) (e : EV) : diffE e (newE d w e) = w ∧ sameE e (newE d w e) = true := by
  have n1 : ∀ x : Int, x ≠ wrap64 (x + d) := fun x => by unfold wrap64; omega
  have n2 : ∀ s : ByteArray, s ≠ s ++ ⟨#[120]⟩ := fun s q => by
    have h := (congrArg ByteArray.size q).trans ByteArray.size_append
    have h2 : (⟨#[120]⟩ : ByteArray).size = 1 := rfl
    omega
  refine ⟨?_, by simp [sameE, newE]⟩
  unfold diffE newE
  simp only
  subst hw
  rcases (show m = 0 ∨ m = 1 ∨ m = 2 ∨ m = 3 ∨ m = 4 ∨ m = 5 ∨ m = 6 ∨ m = 7 by omega) with rfl | rfl | rfl | rfl | rfl | rfl | rfl | rfl <;> simp [n1, n2]
end Go.Proofs.YtlideagcmhlkeaaDoor.P32

/- A copy that is changed in place while a row of changes grows (ReportAgain). No walk. -/
namespace Go.Proofs.YtlideagcmhlkeaaDoor
open Go.RowKit
set_option linter.unusedVariables false

theorem CopyOf.below32 {W W' : World} {base : Nat} {s t : SV} (h : CopyOf W base s t) (hb : Below W.heap.size W W') : CopyOf W' base s t :=
  ⟨⟨h.rules.1, h.rules.2.below hb⟩, ⟨h.zones.1.below hb, h.zones.2.below hb⟩, ⟨h.links.1, h.links.2.below hb⟩, ⟨h.shifts.1, h.shifts.2.below hb⟩⟩
theorem CopyOf.self32 {W : World} {base : Nat} {s t : SV} (h : CopyOf W base s t) : CopyOf W base t t :=
  ⟨⟨rfl, h.rules.2⟩, ⟨h.zones.1, ⟨⟨rfl, fun i z y hz hy => by rw [hz] at hy; injection hy with hy; subst hy; exact ⟨rfl, rfl⟩⟩, h.zones.2.eras, h.zones.2.apart⟩⟩, ⟨rfl, h.links.2⟩, ⟨rfl, h.shifts.2⟩⟩
/-- the source with another era at a place -/
def SV.setEra32 (t : SV) (i : Nat) (z : ZV) (k : Nat) (e : EV) : SV := { t with zones := t.zones.set i { z with eras := z.eras.set k e } }
theorem own_setOff32 {W : World} {base n size B j : Nat} {e : TypeId} {v : Value} {xs : List Value} (h : W.ownsRow base e size v n xs) (hB : v.ownBlock ≠ some B) (u : Value) : (W.setCell ⟨B, j, none⟩ u).ownsRow base e size v n xs := by
  refine ⟨h.1, ?_⟩
  rcases h.2 with q | ⟨g, cap, cur, hv, hb, hh, hr⟩
  · exact .inl q
  · refine .inr ⟨g, cap, cur, hv, hb, (Below.heap_setCell W _ u g (fun e => hB ?_)).trans hh, hr⟩
    rw [hv]
    show some g = some B
    rw [show g = B from e]
theorem zcells_set32 : ∀ {Z : List ZV} {i : Nat} {z z' : ZV}, Z[i]? = some z → z'.cells = z.cells → (Z.set i z').flatMap ZV.cells = Z.flatMap ZV.cells
  | [], i, z, z', h, _ => by simp at h
  | a :: Z, 0, z, z', h, hc => by
    simp only [List.getElem?_cons_zero, Option.some.injEq] at h
    subst h
    rw [List.set_cons_zero, List.flatMap_cons, List.flatMap_cons, hc]
  | a :: Z, i + 1, z, z', h, hc => by
    simp only [List.getElem?_cons_succ] at h
    rw [List.set_cons_succ, List.flatMap_cons, List.flatMap_cons, zcells_set32 h hc]
theorem set_from32 {Z : List ZV} {i a : Nat} {z z' y : ZV} (hz : Z[i]? = some z) (hA : z'.A = z.A) (h : (Z.set i z')[a]? = some y) : ∃ x, Z[a]? = some x ∧ x.A = y.A := by
  by_cases hi : i = a
  · subst hi
    rw [List.getElem?_set_self (List.getElem?_eq_some_iff.1 hz).1] at h
    injection h with h
    subst h
    exact ⟨z, hz, hA.symm⟩
  · rw [List.getElem?_set_ne hi] at h
    exact ⟨y, h, rfl⟩
/-- one cell of an era is stored -/
theorem CopyOf.setCell32 {W : World} {base : Nat} {t : SV} (h : CopyOf W base t t) {i : Nat} {z : ZV} (hz : t.zones[i]? = some z) {g : Nat} (hA : z.A = some ⟨g, 0, none⟩) {k j : Nat} {x y : EV} (hk : z.eras[k]? = some x) (u : Value) (hj : j < 13) (hy : y.cells = x.cells.set j u) :
    CopyOf (W.setCell ⟨g, k * 13 + j, none⟩ u) base (t.setEra32 i z k y) (t.setEra32 i z k y) := by
  have hrow := h.zones.2.eras i z hz
  rw [hA] at hrow
  have hO : (Value.slice (some ⟨g, 0, none⟩) z.eras.length z.c).ownBlock = some g := rfl
  refine ⟨⟨rfl, row_set_other h.rules.2 hrow hO (by decide) u⟩, ⟨?_, ⟨⟨rfl, fun i z y hz hy => by rw [hz] at hy; injection hy with hy; subst hy; exact ⟨rfl, rfl⟩⟩, fun a y' hy' => ?_, fun a b y' z' hab hya hzb g' h1 h2 => ?_⟩⟩, ⟨rfl, row_set_other h.links.2 hrow hO (by decide) u⟩, ⟨rfl, row_set_other h.shifts.2 hrow hO (by decide) u⟩⟩
  · show RowOf _ base 39 2 ZV.cells t.zA t.zc (t.zones.set i _)
    unfold RowOf
    rw [List.length_set, zcells_set32 hz (by unfold ZV.cells; rw [List.length_set])]
    exact row_set_other h.zones.1 hrow hO (by decide) u
  · show RowOf _ base 47 13 EV.cells y'.A y'.c y'.eras
    have hy'' : (t.zones.set i { z with eras := z.eras.set k y })[a]? = some y' := hy'
    by_cases hi : i = a
    · subst hi
      rw [List.getElem?_set_self (List.getElem?_eq_some_iff.1 hz).1] at hy''
      injection hy'' with hy''
      subst hy''
      show RowOf _ base 47 13 EV.cells z.A z.c (z.eras.set k y)
      rw [hA]
      exact hrow.set_ len_era k j x y u hj hk hy
    · rw [List.getElem?_set_ne hi] at hy''
      have hr := h.zones.2.eras a y' hy''
      refine own_setOff32 hr (fun q => ?_) u
      have hyA : y'.A = some ⟨g, 0, none⟩ := by
        rcases hr.2 with ⟨q2, _⟩ | ⟨g2, cap, cur, hv, _⟩
        · rw [q2] at q; cases q
        · rw [hv] at q
          have q3 : g2 = g := Option.some.inj q
          subst q3
          injection hv
      rcases Nat.lt_or_gt_of_ne hi with hlt | hgt
      · exact h.zones.2.apart i a z y' hlt hz hy'' g hA hyA
      · exact h.zones.2.apart a i y' z hgt hy'' hz g hyA hA
  · obtain ⟨x1, hx1, e1⟩ := set_from32 (z' := { z with eras := z.eras.set k y }) hz rfl hya
    obtain ⟨x2, hx2, e2⟩ := set_from32 (z' := { z with eras := z.eras.set k y }) hz rfl hzb
    exact h.zones.2.apart a b x1 x2 hab hx1 hx2 g' (e1.trans h1) (e2.trans h2)
theorem RowOf.addr32 {α : Type} {W : World} {base : Nat} {e : TypeId} {m : Nat} {f : α → List Value} {A : Option Addr} {c : Nat} {L : List α} (h : RowOf W base e m f A c L) (hl : 0 < L.length) : ∃ B, A = some ⟨B, 0, none⟩ ∧ base ≤ B ∧ B < W.heap.size := by
  rcases h.2 with ⟨_, q⟩ | ⟨g, cap, cur, hv, hb, hh, _⟩
  · omega
  · injection hv with hA
    exact ⟨g, hA, hb, (Array.getElem?_eq_some_iff.1 hh).1⟩
theorem RowOf.cellAt32 {α : Type} {W : World} {base : Nat} {e : TypeId} {m : Nat} {f : α → List Value} {B : Nat} {c : Nat} {L : List α} (h : RowOf W base e m f (some ⟨B, 0, none⟩) c L) (hf : ∀ a, (f a).length = m) {k : Nat} {x : α} (hx : L[k]? = some x) (j : Nat) (u : Value) (hu : (f x)[j]? = some u) : W.cell? ⟨B, k * m + j, none⟩ = some u := by
  obtain ⟨b, o, hA, _, hc⟩ := h.cellsIn hf k x hx
  injection hA with hA
  injection hA with h1 h2
  subst h1
  subst h2
  have := hc j u hu
  rwa [Nat.zero_add] at this
theorem RowOf.frozenAt32 {α : Type} {W : World} {base : Nat} {e : TypeId} {m : Nat} {f : α → List Value} {B : Nat} {c : Nat} {L : List α} (h : RowOf W base e m f (some ⟨B, 0, none⟩) c L) (j : Nat) : W.frozen? ⟨B, j, none⟩ = false := World.ownsRow.frozenAt h j
theorem blk_other32 {W W' : World} {g b n size : Nat} {t e : TypeId} {cs : Array Value} {v : Value} {xs : List Value} (h : Blk W g t cs) (k : W.ownsRow b e size v n xs) (hne : t ≠ e) (hg : W.grownBy W' v.ownBlock) : Blk W' g t cs :=
  (hg.block g h.lt fun q => by
    obtain ⟨cur, hc⟩ := block_of k q.symm
    unfold Blk at h
    rw [h] at hc
    injection hc with hc
    injection hc with _ hc _
    exact hne hc).trans h
/-- one cell of a rule is stored -/
theorem CopyOf.setRule32 {W : World} {base : Nat} {t : SV} (h : CopyOf W base t t) {B : Nat} (hA : t.rA = some ⟨B, 0, none⟩) {k j : Nat} {x y : RV} (hk : t.rules[k]? = some x) (u : Value) (hj : j < 11) (hy : y.cells = x.cells.set j u) :
    CopyOf (W.setCell ⟨B, k * 11 + j, none⟩ u) base { t with rules := t.rules.set k y } { t with rules := t.rules.set k y } := by
  have hrow := h.rules.2
  rw [hA] at hrow
  have hO : (Value.slice (some ⟨B, 0, none⟩) t.rules.length t.rc).ownBlock = some B := rfl
  refine ⟨⟨rfl, ?_⟩, ⟨row_set_other h.zones.1 hrow hO (by decide) u, ⟨h.zones.2.same, fun i z hz => row_set_other (h.zones.2.eras i z hz) hrow hO (by decide) u, h.zones.2.apart⟩⟩, ⟨rfl, row_set_other h.links.2 hrow hO (by decide) u⟩, ⟨rfl, row_set_other h.shifts.2 hrow hO (by decide) u⟩⟩
  show RowOf _ base 83 11 RV.cells t.rA t.rc (t.rules.set k y)
  rw [hA]
  exact hrow.set_ len_rule k j x y u hj hk hy
/-- where the loops stand -/
structure Ra (V1 W : World) (G9 wb : Nat) (t : SV) (wA : Option Addr) (wc : Nat) (L : List P32.CV) : Prop where
  box : Blk W G9 32 #[.slice t.rA t.rules.length t.rc, .slice t.zA t.zones.length t.zc, .slice t.kA t.links.length t.kc, .slice t.hA t.shifts.length t.hc]
  cp : CopyOf W V1.heap.size t t
  want : RowOf W wb 87 4 P32.CV.cells wA wc L
  bel : Below V1.heap.size V1 W
  le : V1.heap.size ≤ G9 ∧ G9 < wb
section
variable {V1 W W' : World} {G9 wb wc : Nat} {t : SV} {wA : Option Addr} {L : List P32.CV}
theorem Ra.below (h : Ra V1 W G9 wb t wA wc L) (hb : Below W.heap.size W W') : Ra V1 W' G9 wb t wA wc L :=
  ⟨h.box.below hb h.box.lt, h.cp.below32 hb, h.want.below hb, h.bel.trans (hb.mono h.bel.size), h.le⟩
/-- the changes grow -/
theorem Ra.grown {wA' : Option Addr} {wc' : Nat} {L' : List P32.CV} (h : Ra V1 W G9 wb t wA wc L) (hg : W.grownBy W' (Value.slice wA L.length wc).ownBlock) (hr : RowOf W' wb 87 4 P32.CV.cells wA' wc' L') : Ra V1 W' G9 wb t wA' wc' L' :=
  ⟨blk_other32 h.box h.want (by decide) hg, ⟨⟨rfl, row_other h.cp.rules.2 h.want (by decide) hg⟩, ⟨row_other h.cp.zones.1 h.want (by decide) hg, h.cp.zones.2.other h.want (by decide) hg⟩, ⟨rfl, row_other h.cp.links.2 h.want (by decide) hg⟩, ⟨rfl, row_other h.cp.shifts.2 h.want (by decide) hg⟩⟩, hr, h.bel.grown hg h.bel.size fun k hk => by have := (World.ownsRow.lt h.want k hk).1; have := h.le; omega, h.le⟩
theorem Ra.rule {B k : Nat} {x : RV} (h : Ra V1 W G9 wb t wA wc L) (hA : t.rA = some ⟨B, 0, none⟩) (hk : t.rules[k]? = some x) (j : Nat) (y : RV) (u : Value) (hj : j < 11) (hy : y.cells = x.cells.set j u) :
    Ra V1 (W.setCell ⟨B, k * 11 + j, none⟩ u) G9 wb { t with rules := t.rules.set k y } wA wc L := by
  have hrow := h.cp.rules.2
  rw [hA] at hrow
  have hO : (Value.slice (some ⟨B, 0, none⟩) t.rules.length t.rc).ownBlock = some B := rfl
  refine ⟨?_, h.cp.setRule32 hA hk u hj hy, row_set_other h.want hrow hO (by decide) u, h.bel.setCell (p := ⟨B, k * 11 + j, none⟩) (World.ownsRow.lt hrow B hO).1 u, h.le⟩
  show Blk _ G9 32 #[.slice t.rA (t.rules.set k y).length t.rc, .slice t.zA t.zones.length t.zc, .slice t.kA t.links.length t.kc, .slice t.hA t.shifts.length t.hc]
  rw [List.length_set]
  exact blk_set_other h.box hrow hO (by decide) u
theorem Ra.era {B i k : Nat} {z : ZV} {x : EV} (h : Ra V1 W G9 wb t wA wc L) (hz : t.zones[i]? = some z) (hA : z.A = some ⟨B, 0, none⟩) (hk : z.eras[k]? = some x) (j : Nat) (y : EV) (u : Value) (hj : j < 13) (hy : y.cells = x.cells.set j u) :
    Ra V1 (W.setCell ⟨B, k * 13 + j, none⟩ u) G9 wb (t.setEra32 i z k y) wA wc L := by
  have hrow := h.cp.zones.2.eras i z hz
  rw [hA] at hrow
  have hO : (Value.slice (some ⟨B, 0, none⟩) z.eras.length z.c).ownBlock = some B := rfl
  refine ⟨?_, h.cp.setCell32 hz hA hk u hj hy, row_set_other h.want hrow hO (by decide) u, h.bel.setCell (p := ⟨B, k * 13 + j, none⟩) (World.ownsRow.lt hrow B hO).1 u, h.le⟩
  show Blk _ G9 32 #[.slice t.rA t.rules.length t.rc, .slice t.zA (t.zones.set i _).length t.zc, .slice t.kA t.links.length t.kc, .slice t.hA t.shifts.length t.hc]
  rw [List.length_set]
  exact blk_set_other h.box hrow hO (by decide) u
/-- the rule at a place: where it lies -/
theorem Ra.ruleAt {k : Nat} {x : RV} (h : Ra V1 W G9 wb t wA wc L) (hk : t.rules[k]? = some x) : ∃ B, t.rA = some ⟨B, 0, none⟩ ∧ (∀ j u, x.cells[j]? = some u → W.cell? ⟨B, k * 11 + j, none⟩ = some u) ∧ ∀ j, W.frozen? ⟨B, j, none⟩ = false := by
  obtain ⟨B, hA, _, _⟩ := h.cp.rules.2.addr32 (by have := (List.getElem?_eq_some_iff.1 hk).1; omega)
  have hrow := h.cp.rules.2
  rw [hA] at hrow
  exact ⟨B, hA, fun j u hu => hrow.cellAt32 len_rule hk j u hu, fun j => hrow.frozenAt32 j⟩
theorem Ra.zoneAt {i : Nat} {z : ZV} (h : Ra V1 W G9 wb t wA wc L) (hz : t.zones[i]? = some z) : ∃ B, t.zA = some ⟨B, 0, none⟩ ∧ W.cell? ⟨B, i * 2, none⟩ = some (.string z.name) ∧ W.cell? ⟨B, i * 2 + 1, none⟩ = some (.slice z.A z.eras.length z.c) := by
  obtain ⟨B, hA, _, _⟩ := h.cp.zones.1.addr32 (by have := (List.getElem?_eq_some_iff.1 hz).1; omega)
  have hrow := h.cp.zones.1
  rw [hA] at hrow
  exact ⟨B, hA, hrow.cellAt32 len_zone hz 0 _ rfl, hrow.cellAt32 len_zone hz 1 _ rfl⟩
theorem Ra.eraAt {i k : Nat} {z : ZV} {x : EV} (h : Ra V1 W G9 wb t wA wc L) (hz : t.zones[i]? = some z) (hk : z.eras[k]? = some x) : ∃ B, z.A = some ⟨B, 0, none⟩ ∧ (∀ j u, x.cells[j]? = some u → W.cell? ⟨B, k * 13 + j, none⟩ = some u) ∧ ∀ j, W.frozen? ⟨B, j, none⟩ = false := by
  have hrow := h.cp.zones.2.eras i z hz
  obtain ⟨B, hA, _, _⟩ := hrow.addr32 (by have := (List.getElem?_eq_some_iff.1 hk).1; omega)
  rw [hA] at hrow
  exact ⟨B, hA, fun j u hu => hrow.cellAt32 len_era hk j u hu, fun j => hrow.frozenAt32 j⟩
end
namespace P32
/-- the rules so far -/
structure RelR (s t : SV) (k : Nat) (L : List CV) : Prop where
  len : t.rules.length = s.rules.length
  ok : okTo sameR s.rules t.rules k
  rest : ∀ i, k ≤ i → t.rules[i]? = s.rules[i]?
  list : L = ch diffR mkR s.rules t.rules k
theorem RelR.step {s t : SV} {k : Nat} {L : List CV} (h : RelR s t k L) {x y : RV} {q : Int} (hx : s.rules[k]? = some x) (hy : diffR x y = q ∧ sameR x y = true) : RelR s { t with rules := t.rules.set k y } (k + 1) (L ++ if q = 0 then [] else [mkR k q]) := by
  have hlt : k < t.rules.length := by rw [h.len]; exact (List.getElem?_eq_some_iff.1 hx).1
  have hyy : (t.rules.set k y)[k]? = some y := List.getElem?_set_self hlt
  refine ⟨by show (t.rules.set k y).length = _; rw [List.length_set]; exact h.len, okTo_succ (k := k) (fun i a b hi ha hb => h.ok i a b hi ha ?_) hx hyy hy.2, fun i hi => ?_, ?_⟩
  · have hb' : (t.rules.set k y)[i]? = some b := hb
    rwa [List.getElem?_set_ne (by omega)] at hb'
  · show (t.rules.set k y)[i]? = _
    rw [List.getElem?_set_ne (by omega)]
    exact h.rest i (by omega)
  · show _ = ch diffR mkR s.rules (t.rules.set k y) (k + 1)
    rw [ch_succ _ _ _ _ k x y hx hyy, ch_set, hy.1, h.list]
/-- the eras so far: L0 the changes of the rules -/
structure RelZ (s t : SV) (i k : Nat) (L0 L : List CV) : Prop where
  len : t.zones.length = s.zones.length
  like : ∀ (j : Nat) (z y : ZV), s.zones[j]? = some z → t.zones[j]? = some y → z.name = y.name ∧ z.eras.length = y.eras.length
  ok : okZ s.zones t.zones i
  cur : ∀ z y, s.zones[i]? = some z → t.zones[i]? = some y → okTo sameE z.eras y.eras k ∧ ∀ j, k ≤ j → y.eras[j]? = z.eras[j]?
  rest : ∀ (j : Nat) (z y : ZV), i < j → s.zones[j]? = some z → t.zones[j]? = some y → z.eras = y.eras
  list : L = L0 ++ chZ s.zones t.zones i ++ (match s.zones[i]?, t.zones[i]? with | some z, some y => ch diffE (mkE i) z.eras y.eras k | _, _ => [])
theorem chZ_congr {Z Y Y' : List ZV} : ∀ (n : Nat), (∀ i, i < n → Y[i]? = Y'[i]?) → chZ Z Y n = chZ Z Y' n
  | 0, _ => rfl
  | n + 1, h => by rw [chZ, chZ, chZ_congr n (fun i hi => h i (by omega)), h n (by omega)]
theorem RelZ.start {s t : SV} {L : List CV} (hl : t.zones.length = s.zones.length) (h : ∀ (j : Nat) (z y : ZV), s.zones[j]? = some z → t.zones[j]? = some y → z.name = y.name ∧ z.eras = y.eras) : RelZ s t 0 0 L L :=
  ⟨hl, fun j z y hz hy => ⟨(h j z y hz hy).1, by rw [(h j z y hz hy).2]⟩, fun i z y hi => absurd hi (Nat.not_lt_zero _), fun z y hz hy => ⟨okTo_zero _ _ _, fun j _ => by rw [(h 0 z y hz hy).2]⟩, fun j z y _ hz hy => (h j z y hz hy).2, by
    rw [chZ, List.append_nil]
    cases s.zones[0]? with
    | none => simp
    | some z => cases t.zones[0]? with
      | none => simp
      | some y => simp [ch_zero]⟩
theorem RelZ.step {s t : SV} {i k : Nat} {L0 L : List CV} (h : RelZ s t i k L0 L) {z y : ZV} {x x' : EV} {q : Int} (hz : s.zones[i]? = some z) (hy : t.zones[i]? = some y) (hx : z.eras[k]? = some x) (hd : diffE x x' = q ∧ sameE x x' = true) :
    RelZ s (t.setEra32 i y k x') i (k + 1) L0 (L ++ if q = 0 then [] else [mkE i k q]) := by
  have hit : i < t.zones.length := (List.getElem?_eq_some_iff.1 hy).1
  have hyl := h.like i z y hz hy
  have hky : k < y.eras.length := by rw [← hyl.2]; exact (List.getElem?_eq_some_iff.1 hx).1
  have hsame : ∀ j, j ≠ i → (t.zones.set i { y with eras := y.eras.set k x' })[j]? = t.zones[j]? := fun j hj => List.getElem?_set_ne (fun e => hj e.symm)
  have hself : (t.zones.set i { y with eras := y.eras.set k x' })[i]? = some { y with eras := y.eras.set k x' } := List.getElem?_set_self hit
  have hxx : (y.eras.set k x')[k]? = some x' := List.getElem?_set_self hky
  have hc := h.cur z y hz hy
  refine ⟨by show (t.zones.set i _).length = _; rw [List.length_set]; exact h.len, fun j z2 y2 hz2 hy2 => ?_, fun j z2 y2 hj hz2 hy2 => ?_, fun z2 y2 hz2 hy2 => ?_, fun j z2 y2 hj hz2 hy2 => ?_, ?_⟩
  · have hy2' : (t.zones.set i { y with eras := y.eras.set k x' })[j]? = some y2 := hy2
    by_cases hji : j = i
    · subst hji
      rw [hself] at hy2'
      injection hy2' with hy2'
      subst hy2'
      rw [hz] at hz2
      injection hz2 with hz2
      subst hz2
      exact ⟨hyl.1, by show z.eras.length = (y.eras.set k x').length; rw [List.length_set]; exact hyl.2⟩
    · rw [hsame j hji] at hy2'
      exact h.like j z2 y2 hz2 hy2'
  · have hy2' : (t.zones.set i { y with eras := y.eras.set k x' })[j]? = some y2 := hy2
    rw [hsame j (by omega)] at hy2'
    exact h.ok j z2 y2 hj hz2 hy2'
  · have hy2' : (t.zones.set i { y with eras := y.eras.set k x' })[i]? = some y2 := hy2
    rw [hself] at hy2'
    injection hy2' with hy2'
    subst hy2'
    rw [hz] at hz2
    injection hz2 with hz2
    subst hz2
    refine ⟨okTo_succ (k := k) (fun j a b hj ha hb => hc.1 j a b hj ha ?_) hx hxx hd.2, fun j hj => ?_⟩
    · have hb' : (y.eras.set k x')[j]? = some b := hb
      rwa [List.getElem?_set_ne (by omega)] at hb'
    · show (y.eras.set k x')[j]? = _
      rw [List.getElem?_set_ne (by omega)]
      exact hc.2 j (by omega)
  · have hy2' : (t.zones.set i { y with eras := y.eras.set k x' })[j]? = some y2 := hy2
    rw [hsame j (by omega)] at hy2'
    exact h.rest j z2 y2 hj hz2 hy2'
  · have e1 : chZ s.zones (t.zones.set i { y with eras := y.eras.set k x' }) i = chZ s.zones t.zones i := chZ_congr i fun j hj => hsame j (by omega)
    have hl := h.list
    rw [hz, hy] at hl
    show _ = L0 ++ chZ s.zones (t.zones.set i { y with eras := y.eras.set k x' }) i ++ (match s.zones[i]?, (t.zones.set i { y with eras := y.eras.set k x' })[i]? with | some z, some y => ch diffE (mkE i) z.eras y.eras (k + 1) | _, _ => [])
    rw [hz, hself, e1]
    show _ = L0 ++ chZ s.zones t.zones i ++ ch diffE (mkE i) z.eras (y.eras.set k x') (k + 1)
    rw [ch_succ _ _ _ _ k x x' hx hxx, ch_set, hd.1, hl]
    simp only [List.append_assoc]
theorem RelZ.next {s t : SV} {i k : Nat} {L0 L : List CV} (h : RelZ s t i k L0 L) {z y : ZV} (hz : s.zones[i]? = some z) (hy : t.zones[i]? = some y) (hk : k = z.eras.length) : RelZ s t (i + 1) 0 L0 L := by
  subst hk
  have hyl := h.like i z y hz hy
  refine ⟨h.len, h.like, fun j z2 y2 hj hz2 hy2 => ?_, fun z2 y2 hz2 hy2 => ⟨okTo_zero _ _ _, fun j _ => by rw [h.rest (i + 1) z2 y2 (by omega) hz2 hy2]⟩, fun j z2 y2 hj hz2 hy2 => h.rest j z2 y2 (by omega) hz2 hy2, ?_⟩
  · by_cases hji : j < i
    · exact h.ok j z2 y2 hji hz2 hy2
    · obtain rfl : j = i := by omega
      rw [hz] at hz2; rw [hy] at hy2
      injection hz2 with hz2; injection hy2 with hy2
      subst hz2; subst hy2
      exact ⟨hyl.1, hyl.2, (h.cur z y hz hy).1⟩
  · have hl := h.list
    rw [hz, hy] at hl
    rw [hl, chZ, hz, hy]
    have e : (match s.zones[i + 1]?, t.zones[i + 1]? with | some z, some y => ch diffE (mkE (i + 1)) z.eras y.eras 0 | _, _ => []) = [] := by
      cases s.zones[i + 1]? with
      | none => rfl
      | some a => cases t.zones[i + 1]? with
        | none => rfl
        | some b => exact ch_zero _ _ _ _
    rw [e, List.append_nil, List.append_assoc]
/-- all is done -/
theorem RelZ.done {s t : SV} {L0 L : List CV} (hr : RelR s t s.rules.length L0) (h : RelZ s t s.zones.length 0 L0 L) (hk : t.links = s.links) : okS s t ∧ L = chS s t := by
  refine ⟨⟨⟨hr.len.symm, hr.ok⟩, h.len.symm, h.ok, hk.symm⟩, ?_⟩
  rw [h.list, List.getElem?_eq_none (Nat.le_refl _), hr.list]
  simp [chS]
theorem RelR.zones {s t : SV} {k i j : Nat} {y : ZV} {x : EV} {L : List CV} (h : RelR s t k L) : RelR s (t.setEra32 i y j x) k L := ⟨h.len, h.ok, h.rest, h.list⟩
theorem set_get {α : Type} {l : List α} {k : Nat} {x : α} (h : l[k]? = some x) : l.set k x = l := List.ext_getElem? fun i => by
  by_cases hi : k = i
  · subst hi
    rw [List.getElem?_set_self (List.getElem?_eq_some_iff.1 h).1, h]
  · rw [List.getElem?_set_ne hi]
theorem RelR.skip {s t : SV} {k : Nat} {L : List CV} (h : RelR s t k L) {x : RV} (hx : s.rules[k]? = some x) : RelR s t (k + 1) L := by
  have q := h.step hx (y := x) (q := 0) ⟨diffR_self x, sameR_self x⟩
  rw [set_get ((h.rest k (Nat.le_refl _)).trans hx)] at q
  simpa using q
theorem RelR.more {s t : SV} {k : Nat} {L : List CV} (h : RelR s t k L) {x y : RV} {q : Int} (hx : s.rules[k]? = some x) (hy : diffR x y = q ∧ sameR x y = true) (hq : q ≠ 0) : RelR s { t with rules := t.rules.set k y } (k + 1) (L ++ [mkR k q]) := by
  have z := h.step hx hy
  rwa [if_neg hq] at z
theorem RelR.lenL {s t : SV} {k : Nat} {L : List CV} (h : RelR s t k L) : L.length ≤ k := by rw [h.list]; exact ch_len _ _ _ _ _
theorem setEra_get {t : SV} {i k : Nat} {y : ZV} {x : EV} (hy : t.zones[i]? = some y) (hx : y.eras[k]? = some x) : t.setEra32 i y k x = t := by
  unfold SV.setEra32
  rw [set_get hx, set_get hy]
theorem RelZ.skip {s t : SV} {i k : Nat} {L0 L : List CV} (h : RelZ s t i k L0 L) {z y : ZV} {x : EV} (hz : s.zones[i]? = some z) (hy : t.zones[i]? = some y) (hx : z.eras[k]? = some x) : RelZ s t i (k + 1) L0 L := by
  have q := h.step hz hy hx (x' := x) (q := 0) ⟨diffE_self x, sameE_self x⟩
  have hyx : y.eras[k]? = some x := ((h.cur z y hz hy).2 k (Nat.le_refl _)).trans hx
  rw [setEra_get hy hyx] at q
  simpa using q
theorem RelZ.more {s t : SV} {i k : Nat} {L0 L : List CV} (h : RelZ s t i k L0 L) {z y : ZV} {x x' : EV} {q : Int} (hz : s.zones[i]? = some z) (hy : t.zones[i]? = some y) (hx : z.eras[k]? = some x) (hd : diffE x x' = q ∧ sameE x x' = true) (hq : q ≠ 0) :
    RelZ s (t.setEra32 i y k x') i (k + 1) L0 (L ++ [mkE i k q]) := by
  have z := h.step hz hy hx hd
  rwa [if_neg hq] at z
theorem chZ_le (Z Y : List ZV) (h : ∀ z ∈ Z, z.eras.length ≤ 20) : ∀ n, (chZ Z Y n).length ≤ n * 20
  | 0 => by simp [chZ]
  | n + 1 => by
    have ih := chZ_le Z Y h n
    rw [chZ, List.length_append]
    split
    · rename_i z y hz hy
      have := ch_len diffE (mkE n) z.eras y.eras z.eras.length
      have := h z (List.mem_of_getElem? hz)
      omega
    · simp; omega
theorem RelZ.lenL {s t : SV} {i k : Nat} {L0 L : List CV} (h : RelZ s t i k L0 L) (hz : ∀ z ∈ s.zones, z.eras.length ≤ 20) : L.length ≤ L0.length + i * 20 + k := by
  rw [h.list, List.length_append, List.length_append]
  have h1 := chZ_le s.zones t.zones hz i
  split
  · rename_i z y _ _
    have := ch_len diffE (mkE i) z.eras y.eras k
    omega
  · simp; omega
end P32
section
variable {V1 W W' : World} {G9 wb wc : Nat} {t : SV} {wA : Option Addr} {L : List P32.CV}
/-- one cell more of the rule at a place -/
theorem Ra.ruleMore {B k : Nat} {x1 : RV} (h : Ra V1 W G9 wb { t with rules := t.rules.set k x1 } wA wc L) (hA : t.rA = some ⟨B, 0, none⟩) (hk : k < t.rules.length) (j : Nat) (y : RV) (u : Value) (hj : j < 11) (hy : y.cells = x1.cells.set j u) :
    Ra V1 (W.setCell ⟨B, k * 11 + j, none⟩ u) G9 wb { t with rules := t.rules.set k y } wA wc L := by
  have q := h.rule (x := x1) hA (List.getElem?_set_self hk) j y u hj hy
  simpa only [List.set_set] using q
/-- one cell more of the era at a place -/
theorem Ra.eraMore {B i k : Nat} {z : ZV} {x1 : EV} (h : Ra V1 W G9 wb (t.setEra32 i z k x1) wA wc L) (hz : t.zones[i]? = some z) (hA : z.A = some ⟨B, 0, none⟩) (hk : k < z.eras.length) (j : Nat) (y : EV) (u : Value) (hj : j < 13) (hy : y.cells = x1.cells.set j u) :
    Ra V1 (W.setCell ⟨B, k * 13 + j, none⟩ u) G9 wb (t.setEra32 i z k y) wA wc L := by
  have hit := (List.getElem?_eq_some_iff.1 hz).1
  have q := h.era (i := i) (z := { z with eras := z.eras.set k x1 }) (x := x1) (List.getElem?_set_self hit) hA (List.getElem?_set_self hk) j y u hj hy
  unfold SV.setEra32 at q ⊢
  simpa only [List.set_set] using q
theorem row_box32 {α : Type} {W : World} {base : Nat} {e : TypeId} {m : Nat} {f : α → List Value} {A : Option Addr} {c : Nat} {L : List α} {g : Nat} {t : TypeId} {cs : Array Value} (h : RowOf W base e m f A c L) (hb : Blk W g t cs) (hne : e ≠ t) (j : Nat) (u : Value) : RowOf (W.setCell ⟨g, j, none⟩ u) base e m f A c L := by
  refine ⟨h.1, ?_⟩
  rcases h.2 with q | ⟨k, cap, cur, hv, hb2, hh, hr⟩
  · exact .inl q
  · refine .inr ⟨k, cap, cur, hv, hb2, (Below.heap_setCell W _ u k (fun e => ?_)).trans hh, hr⟩
    have e' : k = g := e
    subst e'
    unfold Blk at hb
    rw [hb] at hh
    injection hh with hh
    injection hh with _ hh _
    exact hne hh.symm
/-- a shift is appended -/
theorem Ra.shift {hA' : Option Addr} {hc' : Nat} {x : ByteArray} (h : Ra V1 W G9 wb t wA wc L) (hg : W.grownBy W' (Value.slice t.hA t.shifts.length t.hc).ownBlock) (hr : RowOf W' V1.heap.size 9 1 (fun b : ByteArray => [Value.string b]) hA' hc' (t.shifts ++ [x])) :
    Ra V1 (W'.setCell ⟨G9, 3, none⟩ (.slice hA' (t.shifts.length + 1) hc')) G9 wb { t with shifts := t.shifts ++ [x], hA := hA', hc := hc' } wA wc L := by
  have hs := h.cp.shifts.2
  have o := blk_other32 h.box hs (by decide) hg
  have hl : t.shifts.length + 1 = (t.shifts ++ [x]).length := by simp
  rw [hl]
  refine ⟨o.set_ 3 _, ⟨⟨rfl, row_box32 (row_other h.cp.rules.2 hs (by decide) hg) o (by decide) 3 _⟩, ⟨row_box32 (row_other h.cp.zones.1 hs (by decide) hg) o (by decide) 3 _, ⟨h.cp.zones.2.same, fun i y hy => row_box32 (row_other (h.cp.zones.2.eras i y hy) hs (by decide) hg) o (by decide) 3 _, h.cp.zones.2.apart⟩⟩, ⟨rfl, row_box32 (row_other h.cp.links.2 hs (by decide) hg) o (by decide) 3 _⟩, ⟨rfl, row_box32 hr o (by decide) 3 _⟩⟩, row_box32 (row_other h.want hs (by decide) hg) o (by decide) 3 _, ?_, h.le⟩
  exact (h.bel.grown hg h.bel.size fun k hk => (World.ownsRow.lt hs k hk).1).setCell (p := ⟨G9, 3, none⟩) h.le.1 _
end
theorem row_is32 {W : World} {base n size : Nat} {e : TypeId} {v : Value} {xs : List Value} (h : W.ownsRow base e size v n xs) : ∃ (A : Option Addr) (c : Nat), v = .slice A n c := by
  rcases h.2 with ⟨hv, hn⟩ | ⟨g, cap, cur, hv, _⟩
  · exact ⟨none, 0, by rw [hv, hn]⟩
  · exact ⟨_, _, hv⟩
end Go.Proofs.YtlideagcmhlkeaaDoor

/- The walks of sum, rules and eras of the report and of the reference (chapter 32). -/
namespace Go.Proofs.YtlideagcmhlkeaaDoor
open Go.RowKit
set_option linter.unusedVariables false
attribute [local go_sem high] eql_rule eql_era
theorem guard_rule (op : BinOp) (x y : Operand) (xs ys : Array Value) (w : World) : (eqGuard op 83 x y (.agg xs) (.agg ys)).run Tryd.prog w = .ok () w := run_eqGuard_agg w op _ x y xs ys (by kernel_rfl)
theorem guard_era (op : BinOp) (x y : Operand) (xs ys : Array Value) (w : World) : (eqGuard op 47 x y (.agg xs) (.agg ys)).run Tryd.prog w = .ok () w := run_eqGuard_agg w op _ x y xs ys (by kernel_rfl)
attribute [local go_sem high] guard_rule guard_era

set_option maxHeartbeats 1000000 in
theorem sum_1_00 (B c : Nat) (w : World) (h : ∀ j u, (#[.bool false, .bool false] : Array Value)[j]? = some u → w.cell? ⟨B, j, none⟩ = some u) :
    Calls Tryd.prog 103 #[.int .i64 1, .slice (some ⟨B, 0, none⟩) 2 c] w fun e w' => e = .returned (.int .i64 0) ∧ w = w' := by
  have a0 : w.cell? ⟨B, 0, none⟩ = some (.bool false) := h 0 _ rfl
  have a1 : w.cell? ⟨B, 1, none⟩ = some (.bool false) := h 1 _ rfl
  clear h
  go_enter Tryd.func103, Tryd.ntmps103
  go_wp2_with fail
  go_loop [0, 5, 10] (fun s0 s5 s10 => (s0 = .int .i64 1 ∧ s5 = .int .i64 0 ∧ s10 = .int .i64 0) ∨ (s0 = .int .i64 2 ∧ s5 = .int .i64 0 ∧ s10 = .int .i64 1) ∨ (s0 = .int .i64 4 ∧ s5 = .int .i64 0 ∧ s10 = .int .i64 2)) (fun _ _ i => 2 - (intOf i).toNat)
  case atStart => exact .inl ⟨rfl, rfl, rfl⟩
  case round =>
    rcases hrel with ⟨rfl, rfl, rfl⟩ | ⟨rfl, rfl, rfl⟩ | ⟨rfl, rfl, rfl⟩
    · go_wp2_with fail
      go_round
      case rel => exact (.inr (.inl ⟨rfl, rfl, rfl⟩))
      case measure => simp [intOf]
    · go_wp2_with fail
      go_round
      case rel => exact (.inr (.inr (⟨rfl, rfl, rfl⟩)))
      case measure => simp [intOf]
    · go_wp2_with fail
      go_ret
      exact ⟨rfl, rfl⟩
set_option maxHeartbeats 1000000 in
theorem sum_1_01 (B c : Nat) (w : World) (h : ∀ j u, (#[.bool false, .bool true] : Array Value)[j]? = some u → w.cell? ⟨B, j, none⟩ = some u) :
    Calls Tryd.prog 103 #[.int .i64 1, .slice (some ⟨B, 0, none⟩) 2 c] w fun e w' => e = .returned (.int .i64 2) ∧ w = w' := by
  have a0 : w.cell? ⟨B, 0, none⟩ = some (.bool false) := h 0 _ rfl
  have a1 : w.cell? ⟨B, 1, none⟩ = some (.bool true) := h 1 _ rfl
  clear h
  go_enter Tryd.func103, Tryd.ntmps103
  go_wp2_with fail
  go_loop [0, 5, 10] (fun s0 s5 s10 => (s0 = .int .i64 1 ∧ s5 = .int .i64 0 ∧ s10 = .int .i64 0) ∨ (s0 = .int .i64 2 ∧ s5 = .int .i64 0 ∧ s10 = .int .i64 1) ∨ (s0 = .int .i64 4 ∧ s5 = .int .i64 2 ∧ s10 = .int .i64 2)) (fun _ _ i => 2 - (intOf i).toNat)
  case atStart => exact .inl ⟨rfl, rfl, rfl⟩
  case round =>
    rcases hrel with ⟨rfl, rfl, rfl⟩ | ⟨rfl, rfl, rfl⟩ | ⟨rfl, rfl, rfl⟩
    · go_wp2_with fail
      go_round
      case rel => exact (.inr (.inl ⟨rfl, rfl, rfl⟩))
      case measure => simp [intOf]
    · go_wp2_with fail
      go_round
      case rel => exact (.inr (.inr (⟨rfl, rfl, rfl⟩)))
      case measure => simp [intOf]
    · go_wp2_with fail
      go_ret
      exact ⟨rfl, rfl⟩
set_option maxHeartbeats 1000000 in
theorem sum_1_10 (B c : Nat) (w : World) (h : ∀ j u, (#[.bool true, .bool false] : Array Value)[j]? = some u → w.cell? ⟨B, j, none⟩ = some u) :
    Calls Tryd.prog 103 #[.int .i64 1, .slice (some ⟨B, 0, none⟩) 2 c] w fun e w' => e = .returned (.int .i64 1) ∧ w = w' := by
  have a0 : w.cell? ⟨B, 0, none⟩ = some (.bool true) := h 0 _ rfl
  have a1 : w.cell? ⟨B, 1, none⟩ = some (.bool false) := h 1 _ rfl
  clear h
  go_enter Tryd.func103, Tryd.ntmps103
  go_wp2_with fail
  go_loop [0, 5, 10] (fun s0 s5 s10 => (s0 = .int .i64 1 ∧ s5 = .int .i64 0 ∧ s10 = .int .i64 0) ∨ (s0 = .int .i64 2 ∧ s5 = .int .i64 1 ∧ s10 = .int .i64 1) ∨ (s0 = .int .i64 4 ∧ s5 = .int .i64 1 ∧ s10 = .int .i64 2)) (fun _ _ i => 2 - (intOf i).toNat)
  case atStart => exact .inl ⟨rfl, rfl, rfl⟩
  case round =>
    rcases hrel with ⟨rfl, rfl, rfl⟩ | ⟨rfl, rfl, rfl⟩ | ⟨rfl, rfl, rfl⟩
    · go_wp2_with fail
      go_round
      case rel => exact (.inr (.inl ⟨rfl, rfl, rfl⟩))
      case measure => simp [intOf]
    · go_wp2_with fail
      go_round
      case rel => exact (.inr (.inr (⟨rfl, rfl, rfl⟩)))
      case measure => simp [intOf]
    · go_wp2_with fail
      go_ret
      exact ⟨rfl, rfl⟩
set_option maxHeartbeats 1000000 in
theorem sum_1_11 (B c : Nat) (w : World) (h : ∀ j u, (#[.bool true, .bool true] : Array Value)[j]? = some u → w.cell? ⟨B, j, none⟩ = some u) :
    Calls Tryd.prog 103 #[.int .i64 1, .slice (some ⟨B, 0, none⟩) 2 c] w fun e w' => e = .returned (.int .i64 3) ∧ w = w' := by
  have a0 : w.cell? ⟨B, 0, none⟩ = some (.bool true) := h 0 _ rfl
  have a1 : w.cell? ⟨B, 1, none⟩ = some (.bool true) := h 1 _ rfl
  clear h
  go_enter Tryd.func103, Tryd.ntmps103
  go_wp2_with fail
  go_loop [0, 5, 10] (fun s0 s5 s10 => (s0 = .int .i64 1 ∧ s5 = .int .i64 0 ∧ s10 = .int .i64 0) ∨ (s0 = .int .i64 2 ∧ s5 = .int .i64 1 ∧ s10 = .int .i64 1) ∨ (s0 = .int .i64 4 ∧ s5 = .int .i64 3 ∧ s10 = .int .i64 2)) (fun _ _ i => 2 - (intOf i).toNat)
  case atStart => exact .inl ⟨rfl, rfl, rfl⟩
  case round =>
    rcases hrel with ⟨rfl, rfl, rfl⟩ | ⟨rfl, rfl, rfl⟩ | ⟨rfl, rfl, rfl⟩
    · go_wp2_with fail
      go_round
      case rel => exact (.inr (.inl ⟨rfl, rfl, rfl⟩))
      case measure => simp [intOf]
    · go_wp2_with fail
      go_round
      case rel => exact (.inr (.inr (⟨rfl, rfl, rfl⟩)))
      case measure => simp [intOf]
    · go_wp2_with fail
      go_ret
      exact ⟨rfl, rfl⟩
set_option maxHeartbeats 1000000 in
theorem sum_4_000 (B c : Nat) (w : World) (h : ∀ j u, (#[.bool false, .bool false, .bool false] : Array Value)[j]? = some u → w.cell? ⟨B, j, none⟩ = some u) :
    Calls Tryd.prog 103 #[.int .i64 4, .slice (some ⟨B, 0, none⟩) 3 c] w fun e w' => e = .returned (.int .i64 0) ∧ w = w' := by
  have a0 : w.cell? ⟨B, 0, none⟩ = some (.bool false) := h 0 _ rfl
  have a1 : w.cell? ⟨B, 1, none⟩ = some (.bool false) := h 1 _ rfl
  have a2 : w.cell? ⟨B, 2, none⟩ = some (.bool false) := h 2 _ rfl
  clear h
  go_enter Tryd.func103, Tryd.ntmps103
  go_wp2_with fail
  go_loop [0, 5, 10] (fun s0 s5 s10 => (s0 = .int .i64 4 ∧ s5 = .int .i64 0 ∧ s10 = .int .i64 0) ∨ (s0 = .int .i64 8 ∧ s5 = .int .i64 0 ∧ s10 = .int .i64 1) ∨ (s0 = .int .i64 16 ∧ s5 = .int .i64 0 ∧ s10 = .int .i64 2) ∨ (s0 = .int .i64 32 ∧ s5 = .int .i64 0 ∧ s10 = .int .i64 3)) (fun _ _ i => 3 - (intOf i).toNat)
  case atStart => exact .inl ⟨rfl, rfl, rfl⟩
  case round =>
    rcases hrel with ⟨rfl, rfl, rfl⟩ | ⟨rfl, rfl, rfl⟩ | ⟨rfl, rfl, rfl⟩ | ⟨rfl, rfl, rfl⟩
    · go_wp2_with fail
      go_round
      case rel => exact (.inr (.inl ⟨rfl, rfl, rfl⟩))
      case measure => simp [intOf]
    · go_wp2_with fail
      go_round
      case rel => exact (.inr (.inr (.inl ⟨rfl, rfl, rfl⟩)))
      case measure => simp [intOf]
    · go_wp2_with fail
      go_round
      case rel => exact (.inr (.inr (.inr (⟨rfl, rfl, rfl⟩))))
      case measure => simp [intOf]
    · go_wp2_with fail
      go_ret
      exact ⟨rfl, rfl⟩
set_option maxHeartbeats 1000000 in
theorem sum_4_001 (B c : Nat) (w : World) (h : ∀ j u, (#[.bool false, .bool false, .bool true] : Array Value)[j]? = some u → w.cell? ⟨B, j, none⟩ = some u) :
    Calls Tryd.prog 103 #[.int .i64 4, .slice (some ⟨B, 0, none⟩) 3 c] w fun e w' => e = .returned (.int .i64 16) ∧ w = w' := by
  have a0 : w.cell? ⟨B, 0, none⟩ = some (.bool false) := h 0 _ rfl
  have a1 : w.cell? ⟨B, 1, none⟩ = some (.bool false) := h 1 _ rfl
  have a2 : w.cell? ⟨B, 2, none⟩ = some (.bool true) := h 2 _ rfl
  clear h
  go_enter Tryd.func103, Tryd.ntmps103
  go_wp2_with fail
  go_loop [0, 5, 10] (fun s0 s5 s10 => (s0 = .int .i64 4 ∧ s5 = .int .i64 0 ∧ s10 = .int .i64 0) ∨ (s0 = .int .i64 8 ∧ s5 = .int .i64 0 ∧ s10 = .int .i64 1) ∨ (s0 = .int .i64 16 ∧ s5 = .int .i64 0 ∧ s10 = .int .i64 2) ∨ (s0 = .int .i64 32 ∧ s5 = .int .i64 16 ∧ s10 = .int .i64 3)) (fun _ _ i => 3 - (intOf i).toNat)
  case atStart => exact .inl ⟨rfl, rfl, rfl⟩
  case round =>
    rcases hrel with ⟨rfl, rfl, rfl⟩ | ⟨rfl, rfl, rfl⟩ | ⟨rfl, rfl, rfl⟩ | ⟨rfl, rfl, rfl⟩
    · go_wp2_with fail
      go_round
      case rel => exact (.inr (.inl ⟨rfl, rfl, rfl⟩))
      case measure => simp [intOf]
    · go_wp2_with fail
      go_round
      case rel => exact (.inr (.inr (.inl ⟨rfl, rfl, rfl⟩)))
      case measure => simp [intOf]
    · go_wp2_with fail
      go_round
      case rel => exact (.inr (.inr (.inr (⟨rfl, rfl, rfl⟩))))
      case measure => simp [intOf]
    · go_wp2_with fail
      go_ret
      exact ⟨rfl, rfl⟩
set_option maxHeartbeats 1000000 in
theorem sum_4_010 (B c : Nat) (w : World) (h : ∀ j u, (#[.bool false, .bool true, .bool false] : Array Value)[j]? = some u → w.cell? ⟨B, j, none⟩ = some u) :
    Calls Tryd.prog 103 #[.int .i64 4, .slice (some ⟨B, 0, none⟩) 3 c] w fun e w' => e = .returned (.int .i64 8) ∧ w = w' := by
  have a0 : w.cell? ⟨B, 0, none⟩ = some (.bool false) := h 0 _ rfl
  have a1 : w.cell? ⟨B, 1, none⟩ = some (.bool true) := h 1 _ rfl
  have a2 : w.cell? ⟨B, 2, none⟩ = some (.bool false) := h 2 _ rfl
  clear h
  go_enter Tryd.func103, Tryd.ntmps103
  go_wp2_with fail
  go_loop [0, 5, 10] (fun s0 s5 s10 => (s0 = .int .i64 4 ∧ s5 = .int .i64 0 ∧ s10 = .int .i64 0) ∨ (s0 = .int .i64 8 ∧ s5 = .int .i64 0 ∧ s10 = .int .i64 1) ∨ (s0 = .int .i64 16 ∧ s5 = .int .i64 8 ∧ s10 = .int .i64 2) ∨ (s0 = .int .i64 32 ∧ s5 = .int .i64 8 ∧ s10 = .int .i64 3)) (fun _ _ i => 3 - (intOf i).toNat)
  case atStart => exact .inl ⟨rfl, rfl, rfl⟩
  case round =>
    rcases hrel with ⟨rfl, rfl, rfl⟩ | ⟨rfl, rfl, rfl⟩ | ⟨rfl, rfl, rfl⟩ | ⟨rfl, rfl, rfl⟩
    · go_wp2_with fail
      go_round
      case rel => exact (.inr (.inl ⟨rfl, rfl, rfl⟩))
      case measure => simp [intOf]
    · go_wp2_with fail
      go_round
      case rel => exact (.inr (.inr (.inl ⟨rfl, rfl, rfl⟩)))
      case measure => simp [intOf]
    · go_wp2_with fail
      go_round
      case rel => exact (.inr (.inr (.inr (⟨rfl, rfl, rfl⟩))))
      case measure => simp [intOf]
    · go_wp2_with fail
      go_ret
      exact ⟨rfl, rfl⟩
set_option maxHeartbeats 1000000 in
theorem sum_4_011 (B c : Nat) (w : World) (h : ∀ j u, (#[.bool false, .bool true, .bool true] : Array Value)[j]? = some u → w.cell? ⟨B, j, none⟩ = some u) :
    Calls Tryd.prog 103 #[.int .i64 4, .slice (some ⟨B, 0, none⟩) 3 c] w fun e w' => e = .returned (.int .i64 24) ∧ w = w' := by
  have a0 : w.cell? ⟨B, 0, none⟩ = some (.bool false) := h 0 _ rfl
  have a1 : w.cell? ⟨B, 1, none⟩ = some (.bool true) := h 1 _ rfl
  have a2 : w.cell? ⟨B, 2, none⟩ = some (.bool true) := h 2 _ rfl
  clear h
  go_enter Tryd.func103, Tryd.ntmps103
  go_wp2_with fail
  go_loop [0, 5, 10] (fun s0 s5 s10 => (s0 = .int .i64 4 ∧ s5 = .int .i64 0 ∧ s10 = .int .i64 0) ∨ (s0 = .int .i64 8 ∧ s5 = .int .i64 0 ∧ s10 = .int .i64 1) ∨ (s0 = .int .i64 16 ∧ s5 = .int .i64 8 ∧ s10 = .int .i64 2) ∨ (s0 = .int .i64 32 ∧ s5 = .int .i64 24 ∧ s10 = .int .i64 3)) (fun _ _ i => 3 - (intOf i).toNat)
  case atStart => exact .inl ⟨rfl, rfl, rfl⟩
  case round =>
    rcases hrel with ⟨rfl, rfl, rfl⟩ | ⟨rfl, rfl, rfl⟩ | ⟨rfl, rfl, rfl⟩ | ⟨rfl, rfl, rfl⟩
    · go_wp2_with fail
      go_round
      case rel => exact (.inr (.inl ⟨rfl, rfl, rfl⟩))
      case measure => simp [intOf]
    · go_wp2_with fail
      go_round
      case rel => exact (.inr (.inr (.inl ⟨rfl, rfl, rfl⟩)))
      case measure => simp [intOf]
    · go_wp2_with fail
      go_round
      case rel => exact (.inr (.inr (.inr (⟨rfl, rfl, rfl⟩))))
      case measure => simp [intOf]
    · go_wp2_with fail
      go_ret
      exact ⟨rfl, rfl⟩
set_option maxHeartbeats 1000000 in
theorem sum_4_100 (B c : Nat) (w : World) (h : ∀ j u, (#[.bool true, .bool false, .bool false] : Array Value)[j]? = some u → w.cell? ⟨B, j, none⟩ = some u) :
    Calls Tryd.prog 103 #[.int .i64 4, .slice (some ⟨B, 0, none⟩) 3 c] w fun e w' => e = .returned (.int .i64 4) ∧ w = w' := by
  have a0 : w.cell? ⟨B, 0, none⟩ = some (.bool true) := h 0 _ rfl
  have a1 : w.cell? ⟨B, 1, none⟩ = some (.bool false) := h 1 _ rfl
  have a2 : w.cell? ⟨B, 2, none⟩ = some (.bool false) := h 2 _ rfl
  clear h
  go_enter Tryd.func103, Tryd.ntmps103
  go_wp2_with fail
  go_loop [0, 5, 10] (fun s0 s5 s10 => (s0 = .int .i64 4 ∧ s5 = .int .i64 0 ∧ s10 = .int .i64 0) ∨ (s0 = .int .i64 8 ∧ s5 = .int .i64 4 ∧ s10 = .int .i64 1) ∨ (s0 = .int .i64 16 ∧ s5 = .int .i64 4 ∧ s10 = .int .i64 2) ∨ (s0 = .int .i64 32 ∧ s5 = .int .i64 4 ∧ s10 = .int .i64 3)) (fun _ _ i => 3 - (intOf i).toNat)
  case atStart => exact .inl ⟨rfl, rfl, rfl⟩
  case round =>
    rcases hrel with ⟨rfl, rfl, rfl⟩ | ⟨rfl, rfl, rfl⟩ | ⟨rfl, rfl, rfl⟩ | ⟨rfl, rfl, rfl⟩
    · go_wp2_with fail
      go_round
      case rel => exact (.inr (.inl ⟨rfl, rfl, rfl⟩))
      case measure => simp [intOf]
    · go_wp2_with fail
      go_round
      case rel => exact (.inr (.inr (.inl ⟨rfl, rfl, rfl⟩)))
      case measure => simp [intOf]
    · go_wp2_with fail
      go_round
      case rel => exact (.inr (.inr (.inr (⟨rfl, rfl, rfl⟩))))
      case measure => simp [intOf]
    · go_wp2_with fail
      go_ret
      exact ⟨rfl, rfl⟩
set_option maxHeartbeats 1000000 in
theorem sum_4_101 (B c : Nat) (w : World) (h : ∀ j u, (#[.bool true, .bool false, .bool true] : Array Value)[j]? = some u → w.cell? ⟨B, j, none⟩ = some u) :
    Calls Tryd.prog 103 #[.int .i64 4, .slice (some ⟨B, 0, none⟩) 3 c] w fun e w' => e = .returned (.int .i64 20) ∧ w = w' := by
  have a0 : w.cell? ⟨B, 0, none⟩ = some (.bool true) := h 0 _ rfl
  have a1 : w.cell? ⟨B, 1, none⟩ = some (.bool false) := h 1 _ rfl
  have a2 : w.cell? ⟨B, 2, none⟩ = some (.bool true) := h 2 _ rfl
  clear h
  go_enter Tryd.func103, Tryd.ntmps103
  go_wp2_with fail
  go_loop [0, 5, 10] (fun s0 s5 s10 => (s0 = .int .i64 4 ∧ s5 = .int .i64 0 ∧ s10 = .int .i64 0) ∨ (s0 = .int .i64 8 ∧ s5 = .int .i64 4 ∧ s10 = .int .i64 1) ∨ (s0 = .int .i64 16 ∧ s5 = .int .i64 4 ∧ s10 = .int .i64 2) ∨ (s0 = .int .i64 32 ∧ s5 = .int .i64 20 ∧ s10 = .int .i64 3)) (fun _ _ i => 3 - (intOf i).toNat)
  case atStart => exact .inl ⟨rfl, rfl, rfl⟩
  case round =>
    rcases hrel with ⟨rfl, rfl, rfl⟩ | ⟨rfl, rfl, rfl⟩ | ⟨rfl, rfl, rfl⟩ | ⟨rfl, rfl, rfl⟩
    · go_wp2_with fail
      go_round
      case rel => exact (.inr (.inl ⟨rfl, rfl, rfl⟩))
      case measure => simp [intOf]
    · go_wp2_with fail
      go_round
      case rel => exact (.inr (.inr (.inl ⟨rfl, rfl, rfl⟩)))
      case measure => simp [intOf]
    · go_wp2_with fail
      go_round
      case rel => exact (.inr (.inr (.inr (⟨rfl, rfl, rfl⟩))))
      case measure => simp [intOf]
    · go_wp2_with fail
      go_ret
      exact ⟨rfl, rfl⟩
set_option maxHeartbeats 1000000 in
theorem sum_4_110 (B c : Nat) (w : World) (h : ∀ j u, (#[.bool true, .bool true, .bool false] : Array Value)[j]? = some u → w.cell? ⟨B, j, none⟩ = some u) :
    Calls Tryd.prog 103 #[.int .i64 4, .slice (some ⟨B, 0, none⟩) 3 c] w fun e w' => e = .returned (.int .i64 12) ∧ w = w' := by
  have a0 : w.cell? ⟨B, 0, none⟩ = some (.bool true) := h 0 _ rfl
  have a1 : w.cell? ⟨B, 1, none⟩ = some (.bool true) := h 1 _ rfl
  have a2 : w.cell? ⟨B, 2, none⟩ = some (.bool false) := h 2 _ rfl
  clear h
  go_enter Tryd.func103, Tryd.ntmps103
  go_wp2_with fail
  go_loop [0, 5, 10] (fun s0 s5 s10 => (s0 = .int .i64 4 ∧ s5 = .int .i64 0 ∧ s10 = .int .i64 0) ∨ (s0 = .int .i64 8 ∧ s5 = .int .i64 4 ∧ s10 = .int .i64 1) ∨ (s0 = .int .i64 16 ∧ s5 = .int .i64 12 ∧ s10 = .int .i64 2) ∨ (s0 = .int .i64 32 ∧ s5 = .int .i64 12 ∧ s10 = .int .i64 3)) (fun _ _ i => 3 - (intOf i).toNat)
  case atStart => exact .inl ⟨rfl, rfl, rfl⟩
  case round =>
    rcases hrel with ⟨rfl, rfl, rfl⟩ | ⟨rfl, rfl, rfl⟩ | ⟨rfl, rfl, rfl⟩ | ⟨rfl, rfl, rfl⟩
    · go_wp2_with fail
      go_round
      case rel => exact (.inr (.inl ⟨rfl, rfl, rfl⟩))
      case measure => simp [intOf]
    · go_wp2_with fail
      go_round
      case rel => exact (.inr (.inr (.inl ⟨rfl, rfl, rfl⟩)))
      case measure => simp [intOf]
    · go_wp2_with fail
      go_round
      case rel => exact (.inr (.inr (.inr (⟨rfl, rfl, rfl⟩))))
      case measure => simp [intOf]
    · go_wp2_with fail
      go_ret
      exact ⟨rfl, rfl⟩
set_option maxHeartbeats 1000000 in
theorem sum_4_111 (B c : Nat) (w : World) (h : ∀ j u, (#[.bool true, .bool true, .bool true] : Array Value)[j]? = some u → w.cell? ⟨B, j, none⟩ = some u) :
    Calls Tryd.prog 103 #[.int .i64 4, .slice (some ⟨B, 0, none⟩) 3 c] w fun e w' => e = .returned (.int .i64 28) ∧ w = w' := by
  have a0 : w.cell? ⟨B, 0, none⟩ = some (.bool true) := h 0 _ rfl
  have a1 : w.cell? ⟨B, 1, none⟩ = some (.bool true) := h 1 _ rfl
  have a2 : w.cell? ⟨B, 2, none⟩ = some (.bool true) := h 2 _ rfl
  clear h
  go_enter Tryd.func103, Tryd.ntmps103
  go_wp2_with fail
  go_loop [0, 5, 10] (fun s0 s5 s10 => (s0 = .int .i64 4 ∧ s5 = .int .i64 0 ∧ s10 = .int .i64 0) ∨ (s0 = .int .i64 8 ∧ s5 = .int .i64 4 ∧ s10 = .int .i64 1) ∨ (s0 = .int .i64 16 ∧ s5 = .int .i64 12 ∧ s10 = .int .i64 2) ∨ (s0 = .int .i64 32 ∧ s5 = .int .i64 28 ∧ s10 = .int .i64 3)) (fun _ _ i => 3 - (intOf i).toNat)
  case atStart => exact .inl ⟨rfl, rfl, rfl⟩
  case round =>
    rcases hrel with ⟨rfl, rfl, rfl⟩ | ⟨rfl, rfl, rfl⟩ | ⟨rfl, rfl, rfl⟩ | ⟨rfl, rfl, rfl⟩
    · go_wp2_with fail
      go_round
      case rel => exact (.inr (.inl ⟨rfl, rfl, rfl⟩))
      case measure => simp [intOf]
    · go_wp2_with fail
      go_round
      case rel => exact (.inr (.inr (.inl ⟨rfl, rfl, rfl⟩)))
      case measure => simp [intOf]
    · go_wp2_with fail
      go_round
      case rel => exact (.inr (.inr (.inr (⟨rfl, rfl, rfl⟩))))
      case measure => simp [intOf]
    · go_wp2_with fail
      go_ret
      exact ⟨rfl, rfl⟩
set_option maxRecDepth 100000 in
set_option maxHeartbeats 8000000 in
theorem rules_any (a0 : ByteArray) (a1 : Int) (a2 : Int) (a3 : Int) (a4 : Int) (a5 : Int) (a6 : Int) (a7 : Int) (a8 : Int) (a9 : Int) (a10 : ByteArray) (b0 : ByteArray) (b1 : Int) (b2 : Int) (b3 : Int) (b4 : Int) (b5 : Int) (b6 : Int) (b7 : Int) (b8 : Int) (b9 : Int) (b10 : ByteArray) (D : Int) (hD : (if a9 = b9 then 0 else 1) + (if a7 = b7 then 0 else 2) = D) (w : World) :
    Calls Tryd.prog 73 #[.agg #[.string a0, .int .i64 a1, .int .i64 a2, .int .i64 a3, .int .i64 a4, .int .i64 a5, .int .i64 a6, .int .i64 a7, .int .i64 a8, .int .i64 a9, .string a10], .agg #[.string b0, .int .i64 b1, .int .i64 b2, .int .i64 b3, .int .i64 b4, .int .i64 b5, .int .i64 b6, .int .i64 b7, .int .i64 b8, .int .i64 b9, .string b10]] w fun e w' => e = .returned (.tuple #[.int .i64 D, .bool (decide (a0 = b0 ∧ a1 = b1 ∧ a2 = b2 ∧ a3 = b3 ∧ a4 = b4 ∧ a5 = b5 ∧ a6 = b6 ∧ a8 = b8 ∧ a10 = b10))]) ∧ Below w.heap.size w w' := by
  by_cases h9 : a9 = b9
  · have n9 : (a9 != b9) = false := by simp [h9]
    by_cases h7 : a7 = b7
    · have n7 : (a7 != b7) = false := by simp [h7]
      obtain rfl : D = 0 := by rw [← hD]; simp [h9, h7]
      have cS := Lib.hid (sum_1_00 (w.heap.size + 2) 2 (((w.alloc (.cells #[.string a0, .int .i64 a1, .int .i64 a2, .int .i64 a3, .int .i64 a4, .int .i64 a5, .int .i64 a6, .int .i64 a7, .int .i64 a8, .int .i64 a9, .string a10] 83)).alloc (.cells #[.string b0, .int .i64 b1, .int .i64 b2, .int .i64 b3, .int .i64 b4, .int .i64 b5, .int .i64 b6, .int .i64 b7, .int .i64 b8, .int .i64 b9, .string b10] 83)).alloc (.cells #[.bool false, .bool false] 4)) (fun j u hu => ((Blk.newAt ((w.alloc (.cells #[.string a0, .int .i64 a1, .int .i64 a2, .int .i64 a3, .int .i64 a4, .int .i64 a5, .int .i64 a6, .int .i64 a7, .int .i64 a8, .int .i64 a9, .string a10] 83)).alloc (.cells #[.string b0, .int .i64 b1, .int .i64 b2, .int .i64 b3, .int .i64 b4, .int .i64 b5, .int .i64 b6, .int .i64 b7, .int .i64 b8, .int .i64 b9, .string b10] 83)) (w.heap.size + 2) (by simp) 4 #[.bool false, .bool false]).cell j).trans hu))
      clear h9 h7 hD
      go_enter Tryd.func73, Tryd.ntmps73
      go_wp2_with fail
      refine cS.out.mono ?_
      rintro e w1 ⟨rfl, rfl⟩
      clear cS n9 n7
      go_wp2_with fail
      go_region
      go_wp2_with fail
      go_quiet (fail)
      go_wp2_with fail
      go_ret2
      exact ⟨by simp only [Bool.decide_and] <;> rfl, below_drewN ((((Below.refl w.heap.size w).alloc (Nat.le_refl _) _).alloc (by simp) _).alloc (by simp; omega) _).drew _⟩
    · have n7 : (a7 != b7) = true := by simp [h7]
      obtain rfl : D = 2 := by rw [← hD]; simp [h9, h7]
      have cS := Lib.hid (sum_1_01 (w.heap.size + 2) 2 (((w.alloc (.cells #[.string a0, .int .i64 a1, .int .i64 a2, .int .i64 a3, .int .i64 a4, .int .i64 a5, .int .i64 a6, .int .i64 a7, .int .i64 a8, .int .i64 a9, .string a10] 83)).alloc (.cells #[.string b0, .int .i64 b1, .int .i64 b2, .int .i64 b3, .int .i64 b4, .int .i64 b5, .int .i64 b6, .int .i64 b7, .int .i64 b8, .int .i64 b9, .string b10] 83)).alloc (.cells #[.bool false, .bool true] 4)) (fun j u hu => ((Blk.newAt ((w.alloc (.cells #[.string a0, .int .i64 a1, .int .i64 a2, .int .i64 a3, .int .i64 a4, .int .i64 a5, .int .i64 a6, .int .i64 a7, .int .i64 a8, .int .i64 a9, .string a10] 83)).alloc (.cells #[.string b0, .int .i64 b1, .int .i64 b2, .int .i64 b3, .int .i64 b4, .int .i64 b5, .int .i64 b6, .int .i64 b7, .int .i64 b8, .int .i64 b9, .string b10] 83)) (w.heap.size + 2) (by simp) 4 #[.bool false, .bool true]).cell j).trans hu))
      clear h9 h7 hD
      go_enter Tryd.func73, Tryd.ntmps73
      go_wp2_with fail
      refine cS.out.mono ?_
      rintro e w1 ⟨rfl, rfl⟩
      clear cS n9 n7
      go_wp2_with fail
      go_region
      go_wp2_with fail
      go_quiet (fail)
      go_wp2_with fail
      go_ret2
      exact ⟨by simp only [Bool.decide_and] <;> rfl, below_drewN ((((Below.refl w.heap.size w).alloc (Nat.le_refl _) _).alloc (by simp) _).alloc (by simp; omega) _).drew _⟩
  · have n9 : (a9 != b9) = true := by simp [h9]
    by_cases h7 : a7 = b7
    · have n7 : (a7 != b7) = false := by simp [h7]
      obtain rfl : D = 1 := by rw [← hD]; simp [h9, h7]
      have cS := Lib.hid (sum_1_10 (w.heap.size + 2) 2 (((w.alloc (.cells #[.string a0, .int .i64 a1, .int .i64 a2, .int .i64 a3, .int .i64 a4, .int .i64 a5, .int .i64 a6, .int .i64 a7, .int .i64 a8, .int .i64 a9, .string a10] 83)).alloc (.cells #[.string b0, .int .i64 b1, .int .i64 b2, .int .i64 b3, .int .i64 b4, .int .i64 b5, .int .i64 b6, .int .i64 b7, .int .i64 b8, .int .i64 b9, .string b10] 83)).alloc (.cells #[.bool true, .bool false] 4)) (fun j u hu => ((Blk.newAt ((w.alloc (.cells #[.string a0, .int .i64 a1, .int .i64 a2, .int .i64 a3, .int .i64 a4, .int .i64 a5, .int .i64 a6, .int .i64 a7, .int .i64 a8, .int .i64 a9, .string a10] 83)).alloc (.cells #[.string b0, .int .i64 b1, .int .i64 b2, .int .i64 b3, .int .i64 b4, .int .i64 b5, .int .i64 b6, .int .i64 b7, .int .i64 b8, .int .i64 b9, .string b10] 83)) (w.heap.size + 2) (by simp) 4 #[.bool true, .bool false]).cell j).trans hu))
      clear h9 h7 hD
      go_enter Tryd.func73, Tryd.ntmps73
      go_wp2_with fail
      refine cS.out.mono ?_
      rintro e w1 ⟨rfl, rfl⟩
      clear cS n9 n7
      go_wp2_with fail
      go_region
      go_wp2_with fail
      go_quiet (fail)
      go_wp2_with fail
      go_ret2
      exact ⟨by simp only [Bool.decide_and] <;> rfl, below_drewN ((((Below.refl w.heap.size w).alloc (Nat.le_refl _) _).alloc (by simp) _).alloc (by simp; omega) _).drew _⟩
    · have n7 : (a7 != b7) = true := by simp [h7]
      obtain rfl : D = 3 := by rw [← hD]; simp [h9, h7]
      have cS := Lib.hid (sum_1_11 (w.heap.size + 2) 2 (((w.alloc (.cells #[.string a0, .int .i64 a1, .int .i64 a2, .int .i64 a3, .int .i64 a4, .int .i64 a5, .int .i64 a6, .int .i64 a7, .int .i64 a8, .int .i64 a9, .string a10] 83)).alloc (.cells #[.string b0, .int .i64 b1, .int .i64 b2, .int .i64 b3, .int .i64 b4, .int .i64 b5, .int .i64 b6, .int .i64 b7, .int .i64 b8, .int .i64 b9, .string b10] 83)).alloc (.cells #[.bool true, .bool true] 4)) (fun j u hu => ((Blk.newAt ((w.alloc (.cells #[.string a0, .int .i64 a1, .int .i64 a2, .int .i64 a3, .int .i64 a4, .int .i64 a5, .int .i64 a6, .int .i64 a7, .int .i64 a8, .int .i64 a9, .string a10] 83)).alloc (.cells #[.string b0, .int .i64 b1, .int .i64 b2, .int .i64 b3, .int .i64 b4, .int .i64 b5, .int .i64 b6, .int .i64 b7, .int .i64 b8, .int .i64 b9, .string b10] 83)) (w.heap.size + 2) (by simp) 4 #[.bool true, .bool true]).cell j).trans hu))
      clear h9 h7 hD
      go_enter Tryd.func73, Tryd.ntmps73
      go_wp2_with fail
      refine cS.out.mono ?_
      rintro e w1 ⟨rfl, rfl⟩
      clear cS n9 n7
      go_wp2_with fail
      go_region
      go_wp2_with fail
      go_quiet (fail)
      go_wp2_with fail
      go_ret2
      exact ⟨by simp only [Bool.decide_and] <;> rfl, below_drewN ((((Below.refl w.heap.size w).alloc (Nat.le_refl _) _).alloc (by simp) _).alloc (by simp; omega) _).drew _⟩
set_option maxRecDepth 100000 in
set_option maxHeartbeats 8000000 in
theorem eras_any (a0 : Int) (a1 : Int) (a2 : Int) (a3 : ByteArray) (a4 : ByteArray) (a5 : Bool) (a6 : Int) (a7 : Int) (a8 : Int) (a9 : Int) (a10 : Int) (a11 : Int) (a12 : Int) (b0 : Int) (b1 : Int) (b2 : Int) (b3 : ByteArray) (b4 : ByteArray) (b5 : Bool) (b6 : Int) (b7 : Int) (b8 : Int) (b9 : Int) (b10 : Int) (b11 : Int) (b12 : Int) (D : Int) (hD : (if a0 = b0 then 0 else 4) + (if a4 = b4 then 0 else 8) + (if a11 = b11 then 0 else 16) = D) (w : World) :
    Calls Tryd.prog 76 #[.agg #[.int .i64 a0, .int .i64 a1, .int .i64 a2, .string a3, .string a4, .bool a5, .int .i64 a6, .int .i64 a7, .int .i64 a8, .int .i64 a9, .int .i64 a10, .int .i64 a11, .int .i64 a12], .agg #[.int .i64 b0, .int .i64 b1, .int .i64 b2, .string b3, .string b4, .bool b5, .int .i64 b6, .int .i64 b7, .int .i64 b8, .int .i64 b9, .int .i64 b10, .int .i64 b11, .int .i64 b12]] w fun e w' => e = .returned (.tuple #[.int .i64 D, .bool (decide (a1 = b1 ∧ a2 = b2 ∧ a3 = b3 ∧ a5 = b5 ∧ a6 = b6 ∧ a7 = b7 ∧ a8 = b8 ∧ a9 = b9 ∧ a10 = b10 ∧ a12 = b12))]) ∧ Below w.heap.size w w' := by
  by_cases h0 : a0 = b0
  · have n0 : (a0 != b0) = false := by simp [h0]
    by_cases h4 : a4 = b4
    · have n4 : (a4.toList == b4.toList) = true := by simp [h4]
      have m4 : (a4.toList != b4.toList) = false := by unfold bne; rw [n4]; rfl
      by_cases h11 : a11 = b11
      · have n11 : (a11 != b11) = false := by simp [h11]
        obtain rfl : D = 0 := by rw [← hD]; simp [h0, h4, h11]
        have cS := Lib.hid (sum_4_000 (w.heap.size + 2) 3 (((w.alloc (.cells #[.int .i64 a0, .int .i64 a1, .int .i64 a2, .string a3, .string a4, .bool a5, .int .i64 a6, .int .i64 a7, .int .i64 a8, .int .i64 a9, .int .i64 a10, .int .i64 a11, .int .i64 a12] 47)).alloc (.cells #[.int .i64 b0, .int .i64 b1, .int .i64 b2, .string b3, .string b4, .bool b5, .int .i64 b6, .int .i64 b7, .int .i64 b8, .int .i64 b9, .int .i64 b10, .int .i64 b11, .int .i64 b12] 47)).alloc (.cells #[.bool false, .bool false, .bool false] 4)) (fun j u hu => ((Blk.newAt ((w.alloc (.cells #[.int .i64 a0, .int .i64 a1, .int .i64 a2, .string a3, .string a4, .bool a5, .int .i64 a6, .int .i64 a7, .int .i64 a8, .int .i64 a9, .int .i64 a10, .int .i64 a11, .int .i64 a12] 47)).alloc (.cells #[.int .i64 b0, .int .i64 b1, .int .i64 b2, .string b3, .string b4, .bool b5, .int .i64 b6, .int .i64 b7, .int .i64 b8, .int .i64 b9, .int .i64 b10, .int .i64 b11, .int .i64 b12] 47)) (w.heap.size + 2) (by simp) 4 #[.bool false, .bool false, .bool false]).cell j).trans hu))
        clear h0 h4 h11 hD
        go_enter Tryd.func76, Tryd.ntmps76
        go_wp2_with fail
        refine cS.out.mono ?_
        rintro e w1 ⟨rfl, rfl⟩
        clear cS n0 n4 m4 n11
        go_wp2_with fail
        go_region
        go_wp2_with fail
        go_quiet (fail)
        go_wp2_with fail
        go_ret2
        exact ⟨by simp only [Bool.decide_and] <;> rfl, below_drewN ((((Below.refl w.heap.size w).alloc (Nat.le_refl _) _).alloc (by simp) _).alloc (by simp; omega) _).drew _⟩
      · have n11 : (a11 != b11) = true := by simp [h11]
        obtain rfl : D = 16 := by rw [← hD]; simp [h0, h4, h11]
        have cS := Lib.hid (sum_4_001 (w.heap.size + 2) 3 (((w.alloc (.cells #[.int .i64 a0, .int .i64 a1, .int .i64 a2, .string a3, .string a4, .bool a5, .int .i64 a6, .int .i64 a7, .int .i64 a8, .int .i64 a9, .int .i64 a10, .int .i64 a11, .int .i64 a12] 47)).alloc (.cells #[.int .i64 b0, .int .i64 b1, .int .i64 b2, .string b3, .string b4, .bool b5, .int .i64 b6, .int .i64 b7, .int .i64 b8, .int .i64 b9, .int .i64 b10, .int .i64 b11, .int .i64 b12] 47)).alloc (.cells #[.bool false, .bool false, .bool true] 4)) (fun j u hu => ((Blk.newAt ((w.alloc (.cells #[.int .i64 a0, .int .i64 a1, .int .i64 a2, .string a3, .string a4, .bool a5, .int .i64 a6, .int .i64 a7, .int .i64 a8, .int .i64 a9, .int .i64 a10, .int .i64 a11, .int .i64 a12] 47)).alloc (.cells #[.int .i64 b0, .int .i64 b1, .int .i64 b2, .string b3, .string b4, .bool b5, .int .i64 b6, .int .i64 b7, .int .i64 b8, .int .i64 b9, .int .i64 b10, .int .i64 b11, .int .i64 b12] 47)) (w.heap.size + 2) (by simp) 4 #[.bool false, .bool false, .bool true]).cell j).trans hu))
        clear h0 h4 h11 hD
        go_enter Tryd.func76, Tryd.ntmps76
        go_wp2_with fail
        refine cS.out.mono ?_
        rintro e w1 ⟨rfl, rfl⟩
        clear cS n0 n4 m4 n11
        go_wp2_with fail
        go_region
        go_wp2_with fail
        go_quiet (fail)
        go_wp2_with fail
        go_ret2
        exact ⟨by simp only [Bool.decide_and] <;> rfl, below_drewN ((((Below.refl w.heap.size w).alloc (Nat.le_refl _) _).alloc (by simp) _).alloc (by simp; omega) _).drew _⟩
    · have n4 : (a4.toList == b4.toList) = false := by rw [beq_eq_false_iff_ne]; exact fun q => h4 ((toList_eq_iff _ _).1 q)
      have m4 : (a4.toList != b4.toList) = true := by unfold bne; rw [n4]; rfl
      by_cases h11 : a11 = b11
      · have n11 : (a11 != b11) = false := by simp [h11]
        obtain rfl : D = 8 := by rw [← hD]; simp [h0, h4, h11]
        have cS := Lib.hid (sum_4_010 (w.heap.size + 2) 3 (((w.alloc (.cells #[.int .i64 a0, .int .i64 a1, .int .i64 a2, .string a3, .string a4, .bool a5, .int .i64 a6, .int .i64 a7, .int .i64 a8, .int .i64 a9, .int .i64 a10, .int .i64 a11, .int .i64 a12] 47)).alloc (.cells #[.int .i64 b0, .int .i64 b1, .int .i64 b2, .string b3, .string b4, .bool b5, .int .i64 b6, .int .i64 b7, .int .i64 b8, .int .i64 b9, .int .i64 b10, .int .i64 b11, .int .i64 b12] 47)).alloc (.cells #[.bool false, .bool true, .bool false] 4)) (fun j u hu => ((Blk.newAt ((w.alloc (.cells #[.int .i64 a0, .int .i64 a1, .int .i64 a2, .string a3, .string a4, .bool a5, .int .i64 a6, .int .i64 a7, .int .i64 a8, .int .i64 a9, .int .i64 a10, .int .i64 a11, .int .i64 a12] 47)).alloc (.cells #[.int .i64 b0, .int .i64 b1, .int .i64 b2, .string b3, .string b4, .bool b5, .int .i64 b6, .int .i64 b7, .int .i64 b8, .int .i64 b9, .int .i64 b10, .int .i64 b11, .int .i64 b12] 47)) (w.heap.size + 2) (by simp) 4 #[.bool false, .bool true, .bool false]).cell j).trans hu))
        clear h0 h4 h11 hD
        go_enter Tryd.func76, Tryd.ntmps76
        go_wp2_with fail
        refine cS.out.mono ?_
        rintro e w1 ⟨rfl, rfl⟩
        clear cS n0 n4 m4 n11
        go_wp2_with fail
        go_region
        go_wp2_with fail
        go_quiet (fail)
        go_wp2_with fail
        go_ret2
        exact ⟨by simp only [Bool.decide_and] <;> rfl, below_drewN ((((Below.refl w.heap.size w).alloc (Nat.le_refl _) _).alloc (by simp) _).alloc (by simp; omega) _).drew _⟩
      · have n11 : (a11 != b11) = true := by simp [h11]
        obtain rfl : D = 24 := by rw [← hD]; simp [h0, h4, h11]
        have cS := Lib.hid (sum_4_011 (w.heap.size + 2) 3 (((w.alloc (.cells #[.int .i64 a0, .int .i64 a1, .int .i64 a2, .string a3, .string a4, .bool a5, .int .i64 a6, .int .i64 a7, .int .i64 a8, .int .i64 a9, .int .i64 a10, .int .i64 a11, .int .i64 a12] 47)).alloc (.cells #[.int .i64 b0, .int .i64 b1, .int .i64 b2, .string b3, .string b4, .bool b5, .int .i64 b6, .int .i64 b7, .int .i64 b8, .int .i64 b9, .int .i64 b10, .int .i64 b11, .int .i64 b12] 47)).alloc (.cells #[.bool false, .bool true, .bool true] 4)) (fun j u hu => ((Blk.newAt ((w.alloc (.cells #[.int .i64 a0, .int .i64 a1, .int .i64 a2, .string a3, .string a4, .bool a5, .int .i64 a6, .int .i64 a7, .int .i64 a8, .int .i64 a9, .int .i64 a10, .int .i64 a11, .int .i64 a12] 47)).alloc (.cells #[.int .i64 b0, .int .i64 b1, .int .i64 b2, .string b3, .string b4, .bool b5, .int .i64 b6, .int .i64 b7, .int .i64 b8, .int .i64 b9, .int .i64 b10, .int .i64 b11, .int .i64 b12] 47)) (w.heap.size + 2) (by simp) 4 #[.bool false, .bool true, .bool true]).cell j).trans hu))
        clear h0 h4 h11 hD
        go_enter Tryd.func76, Tryd.ntmps76
        go_wp2_with fail
        refine cS.out.mono ?_
        rintro e w1 ⟨rfl, rfl⟩
        clear cS n0 n4 m4 n11
        go_wp2_with fail
        go_region
        go_wp2_with fail
        go_quiet (fail)
        go_wp2_with fail
        go_ret2
        exact ⟨by simp only [Bool.decide_and] <;> rfl, below_drewN ((((Below.refl w.heap.size w).alloc (Nat.le_refl _) _).alloc (by simp) _).alloc (by simp; omega) _).drew _⟩
  · have n0 : (a0 != b0) = true := by simp [h0]
    by_cases h4 : a4 = b4
    · have n4 : (a4.toList == b4.toList) = true := by simp [h4]
      have m4 : (a4.toList != b4.toList) = false := by unfold bne; rw [n4]; rfl
      by_cases h11 : a11 = b11
      · have n11 : (a11 != b11) = false := by simp [h11]
        obtain rfl : D = 4 := by rw [← hD]; simp [h0, h4, h11]
        have cS := Lib.hid (sum_4_100 (w.heap.size + 2) 3 (((w.alloc (.cells #[.int .i64 a0, .int .i64 a1, .int .i64 a2, .string a3, .string a4, .bool a5, .int .i64 a6, .int .i64 a7, .int .i64 a8, .int .i64 a9, .int .i64 a10, .int .i64 a11, .int .i64 a12] 47)).alloc (.cells #[.int .i64 b0, .int .i64 b1, .int .i64 b2, .string b3, .string b4, .bool b5, .int .i64 b6, .int .i64 b7, .int .i64 b8, .int .i64 b9, .int .i64 b10, .int .i64 b11, .int .i64 b12] 47)).alloc (.cells #[.bool true, .bool false, .bool false] 4)) (fun j u hu => ((Blk.newAt ((w.alloc (.cells #[.int .i64 a0, .int .i64 a1, .int .i64 a2, .string a3, .string a4, .bool a5, .int .i64 a6, .int .i64 a7, .int .i64 a8, .int .i64 a9, .int .i64 a10, .int .i64 a11, .int .i64 a12] 47)).alloc (.cells #[.int .i64 b0, .int .i64 b1, .int .i64 b2, .string b3, .string b4, .bool b5, .int .i64 b6, .int .i64 b7, .int .i64 b8, .int .i64 b9, .int .i64 b10, .int .i64 b11, .int .i64 b12] 47)) (w.heap.size + 2) (by simp) 4 #[.bool true, .bool false, .bool false]).cell j).trans hu))
        clear h0 h4 h11 hD
        go_enter Tryd.func76, Tryd.ntmps76
        go_wp2_with fail
        refine cS.out.mono ?_
        rintro e w1 ⟨rfl, rfl⟩
        clear cS n0 n4 m4 n11
        go_wp2_with fail
        go_region
        go_wp2_with fail
        go_quiet (fail)
        go_wp2_with fail
        go_ret2
        exact ⟨by simp only [Bool.decide_and] <;> rfl, below_drewN ((((Below.refl w.heap.size w).alloc (Nat.le_refl _) _).alloc (by simp) _).alloc (by simp; omega) _).drew _⟩
      · have n11 : (a11 != b11) = true := by simp [h11]
        obtain rfl : D = 20 := by rw [← hD]; simp [h0, h4, h11]
        have cS := Lib.hid (sum_4_101 (w.heap.size + 2) 3 (((w.alloc (.cells #[.int .i64 a0, .int .i64 a1, .int .i64 a2, .string a3, .string a4, .bool a5, .int .i64 a6, .int .i64 a7, .int .i64 a8, .int .i64 a9, .int .i64 a10, .int .i64 a11, .int .i64 a12] 47)).alloc (.cells #[.int .i64 b0, .int .i64 b1, .int .i64 b2, .string b3, .string b4, .bool b5, .int .i64 b6, .int .i64 b7, .int .i64 b8, .int .i64 b9, .int .i64 b10, .int .i64 b11, .int .i64 b12] 47)).alloc (.cells #[.bool true, .bool false, .bool true] 4)) (fun j u hu => ((Blk.newAt ((w.alloc (.cells #[.int .i64 a0, .int .i64 a1, .int .i64 a2, .string a3, .string a4, .bool a5, .int .i64 a6, .int .i64 a7, .int .i64 a8, .int .i64 a9, .int .i64 a10, .int .i64 a11, .int .i64 a12] 47)).alloc (.cells #[.int .i64 b0, .int .i64 b1, .int .i64 b2, .string b3, .string b4, .bool b5, .int .i64 b6, .int .i64 b7, .int .i64 b8, .int .i64 b9, .int .i64 b10, .int .i64 b11, .int .i64 b12] 47)) (w.heap.size + 2) (by simp) 4 #[.bool true, .bool false, .bool true]).cell j).trans hu))
        clear h0 h4 h11 hD
        go_enter Tryd.func76, Tryd.ntmps76
        go_wp2_with fail
        refine cS.out.mono ?_
        rintro e w1 ⟨rfl, rfl⟩
        clear cS n0 n4 m4 n11
        go_wp2_with fail
        go_region
        go_wp2_with fail
        go_quiet (fail)
        go_wp2_with fail
        go_ret2
        exact ⟨by simp only [Bool.decide_and] <;> rfl, below_drewN ((((Below.refl w.heap.size w).alloc (Nat.le_refl _) _).alloc (by simp) _).alloc (by simp; omega) _).drew _⟩
    · have n4 : (a4.toList == b4.toList) = false := by rw [beq_eq_false_iff_ne]; exact fun q => h4 ((toList_eq_iff _ _).1 q)
      have m4 : (a4.toList != b4.toList) = true := by unfold bne; rw [n4]; rfl
      by_cases h11 : a11 = b11
      · have n11 : (a11 != b11) = false := by simp [h11]
        obtain rfl : D = 12 := by rw [← hD]; simp [h0, h4, h11]
        have cS := Lib.hid (sum_4_110 (w.heap.size + 2) 3 (((w.alloc (.cells #[.int .i64 a0, .int .i64 a1, .int .i64 a2, .string a3, .string a4, .bool a5, .int .i64 a6, .int .i64 a7, .int .i64 a8, .int .i64 a9, .int .i64 a10, .int .i64 a11, .int .i64 a12] 47)).alloc (.cells #[.int .i64 b0, .int .i64 b1, .int .i64 b2, .string b3, .string b4, .bool b5, .int .i64 b6, .int .i64 b7, .int .i64 b8, .int .i64 b9, .int .i64 b10, .int .i64 b11, .int .i64 b12] 47)).alloc (.cells #[.bool true, .bool true, .bool false] 4)) (fun j u hu => ((Blk.newAt ((w.alloc (.cells #[.int .i64 a0, .int .i64 a1, .int .i64 a2, .string a3, .string a4, .bool a5, .int .i64 a6, .int .i64 a7, .int .i64 a8, .int .i64 a9, .int .i64 a10, .int .i64 a11, .int .i64 a12] 47)).alloc (.cells #[.int .i64 b0, .int .i64 b1, .int .i64 b2, .string b3, .string b4, .bool b5, .int .i64 b6, .int .i64 b7, .int .i64 b8, .int .i64 b9, .int .i64 b10, .int .i64 b11, .int .i64 b12] 47)) (w.heap.size + 2) (by simp) 4 #[.bool true, .bool true, .bool false]).cell j).trans hu))
        clear h0 h4 h11 hD
        go_enter Tryd.func76, Tryd.ntmps76
        go_wp2_with fail
        refine cS.out.mono ?_
        rintro e w1 ⟨rfl, rfl⟩
        clear cS n0 n4 m4 n11
        go_wp2_with fail
        go_region
        go_wp2_with fail
        go_quiet (fail)
        go_wp2_with fail
        go_ret2
        exact ⟨by simp only [Bool.decide_and] <;> rfl, below_drewN ((((Below.refl w.heap.size w).alloc (Nat.le_refl _) _).alloc (by simp) _).alloc (by simp; omega) _).drew _⟩
      · have n11 : (a11 != b11) = true := by simp [h11]
        obtain rfl : D = 28 := by rw [← hD]; simp [h0, h4, h11]
        have cS := Lib.hid (sum_4_111 (w.heap.size + 2) 3 (((w.alloc (.cells #[.int .i64 a0, .int .i64 a1, .int .i64 a2, .string a3, .string a4, .bool a5, .int .i64 a6, .int .i64 a7, .int .i64 a8, .int .i64 a9, .int .i64 a10, .int .i64 a11, .int .i64 a12] 47)).alloc (.cells #[.int .i64 b0, .int .i64 b1, .int .i64 b2, .string b3, .string b4, .bool b5, .int .i64 b6, .int .i64 b7, .int .i64 b8, .int .i64 b9, .int .i64 b10, .int .i64 b11, .int .i64 b12] 47)).alloc (.cells #[.bool true, .bool true, .bool true] 4)) (fun j u hu => ((Blk.newAt ((w.alloc (.cells #[.int .i64 a0, .int .i64 a1, .int .i64 a2, .string a3, .string a4, .bool a5, .int .i64 a6, .int .i64 a7, .int .i64 a8, .int .i64 a9, .int .i64 a10, .int .i64 a11, .int .i64 a12] 47)).alloc (.cells #[.int .i64 b0, .int .i64 b1, .int .i64 b2, .string b3, .string b4, .bool b5, .int .i64 b6, .int .i64 b7, .int .i64 b8, .int .i64 b9, .int .i64 b10, .int .i64 b11, .int .i64 b12] 47)) (w.heap.size + 2) (by simp) 4 #[.bool true, .bool true, .bool true]).cell j).trans hu))
        clear h0 h4 h11 hD
        go_enter Tryd.func76, Tryd.ntmps76
        go_wp2_with fail
        refine cS.out.mono ?_
        rintro e w1 ⟨rfl, rfl⟩
        clear cS n0 n4 m4 n11
        go_wp2_with fail
        go_region
        go_wp2_with fail
        go_quiet (fail)
        go_wp2_with fail
        go_ret2
        exact ⟨by simp only [Bool.decide_and] <;> rfl, below_drewN ((((Below.refl w.heap.size w).alloc (Nat.le_refl _) _).alloc (by simp) _).alloc (by simp; omega) _).drew _⟩
end Go.Proofs.YtlideagcmhlkeaaDoor

/- The walks of the places and of each (chapter 32). -/
namespace Go.Proofs.YtlideagcmhlkeaaDoor
open Go.RowKit
set_option linter.unusedVariables false
attribute [local go_sem ↓] Go.wp_at_zero Go.wp_at_succ

set_option maxHeartbeats 1000000 in
theorem place1_any (i : Int) (w : World) : Calls Tryd.prog 74 #[.int .i64 i] w fun e w' => e = .returned (.agg #[.int .i64 1, .int .i64 i, .int .i64 0]) ∧ Below w.heap.size w w' := by
  have hB := Blk.new w 85 #[.int .i64 1, .int .i64 i, .int .i64 0]
  have k0 := (hB.cell 0).trans rfl
  have k1 := (hB.cell 1).trans rfl
  have k2 := (hB.cell 2).trans rfl
  clear hB
  go_enter Tryd.func74, Tryd.ntmps74
  go_wp2_with fail
  exact bodyPost_ret (v := .agg #[.int .i64 1, .int .i64 i, .int .i64 0]) (by simp [results, Tryd.results74, go_sem, k0, k1, k2]) rfl ⟨rfl, (Below.refl _ _).alloc (Nat.le_refl _) _⟩
set_option maxHeartbeats 1000000 in
theorem place2_any (i z : Int) (ib : Nat) (w : World) (hz : w.cell? ⟨ib, 0, none⟩ = some (.int .i64 z)) (hib : ib < w.heap.size) : Calls Tryd.prog 77 #[.int .i64 i, .pointer (some ⟨ib, 0, none⟩)] w fun e w' => e = .returned (.agg #[.int .i64 2, .int .i64 z, .int .i64 i]) ∧ Below w.heap.size w w' := by
  have hB := Blk.new w 85 #[.int .i64 2, .int .i64 z, .int .i64 i]
  have k0 := (hB.cell 0).trans rfl
  have k1 := (hB.cell 1).trans rfl
  have k2 := (hB.cell 2).trans rfl
  clear hB
  go_enter Tryd.func77, Tryd.ntmps77
  go_wp2_with fail
  exact bodyPost_ret (v := .agg #[.int .i64 2, .int .i64 z, .int .i64 i]) (by simp [results, Tryd.results77, go_sem, k0, k1, k2]) rfl ⟨rfl, (Below.refl _ _).alloc (Nat.le_refl _) _⟩

def ccells (l : List P32.CV) : List Value := l.flatMap P32.CV.cells
theorem size_setCell' (w : World) (p : Addr) (u : Value) : (w.setCell p u).heap.size = w.heap.size := by simp [World.setCell]
/-- the variable of the changes: its cell in block ob, and its row -/
def OutIs (W : World) (ob : Nat) (v : Value) (l : List P32.CV) : Prop := Blk W ob 81 #[v] ∧ W.ownsRow (ob + 1) 87 4 v l.length (ccells l)
/-- from w to w': nothing is turned but block ob and the row of v -/
structure Turned (ob : Nat) (w : World) (v : Value) (w' : World) (v' : Value) : Prop where
  size : w.heap.size ≤ w'.heap.size
  kept : ∀ k, k < w.heap.size → k ≠ ob → some k ≠ v.ownBlock → w'.heap[k]? = w.heap[k]?
  own : ∀ k, v'.ownBlock = some k → v.ownBlock = some k ∨ w.heap.size ≤ k
theorem Turned.refl (ob : Nat) (w : World) (v : Value) : Turned ob w v w v := ⟨Nat.le_refl _, fun _ _ _ _ => rfl, fun k h => .inl h⟩
theorem Turned.trans {ob : Nat} {w w1 w2 : World} {v v1 v2 : Value} (h : Turned ob w v w1 v1) (k : Turned ob w1 v1 w2 v2) : Turned ob w v w2 v2 := by
  refine ⟨Nat.le_trans h.size k.size, fun j hj h1 h2 => ?_, fun j hj => ?_⟩
  · refine (k.kept j (Nat.lt_of_lt_of_le hj h.size) h1 fun q => ?_).trans (h.kept j hj h1 h2)
    rcases h.own j q.symm with r | r
    · exact h2 r.symm
    · omega
  · rcases k.own j hj with r | r
    · exact h.own j r
    · exact .inr (Nat.le_trans h.size r)
theorem Turned.below {ob : Nat} {w w1 w2 : World} {v v1 : Value} (h : Turned ob w v w1 v1) (hb : Below w1.heap.size w1 w2) : Turned ob w v w2 v1 :=
  h.trans ⟨hb.size, fun k hk _ _ => hb.block k hk, fun k q => .inl q⟩
theorem OutIs.below {W W' : World} {ob : Nat} {v : Value} {l : List P32.CV} (h : OutIs W ob v l) (hb : Below W.heap.size W W') : OutIs W' ob v l := ⟨h.1.below hb h.1.lt, own_below h.2 hb⟩
theorem OutIs.lt {W : World} {ob : Nat} {v : Value} {l : List P32.CV} (h : OutIs W ob v l) : ob < W.heap.size := h.1.lt
theorem ccells_snoc (l : List P32.CV) (c : P32.CV) : ccells (l ++ [c]) = ccells l ++ c.cells := by unfold ccells; rw [List.flatMap_append]; simp
theorem infoChange : (Tryd.prog.info? 87).map (fun i => (i.zero, i.size, i.bytes)) = some (some (.agg #[.int .i64 0, .int .i64 0, .int .i64 0, .int .i64 0]), 4, 32) := by kernel_rfl
theorem own_far {w : World} {base n size : Nat} {e : TypeId} {v : Value} {xs : List Value} (h : w.ownsRow base e size v n xs) (b : Nat) (hb : b < base) (u : Value) : (w.setCell ⟨b, 0, none⟩ u).ownsRow base e size v n xs := by
  refine ⟨h.1, ?_⟩
  rcases h.2 with q | ⟨g, cap, cur, hv, hg, hh, r⟩
  · exact .inl q
  · exact .inr ⟨g, cap, cur, hv, hg, (heap_setCell_other w ⟨b, 0, none⟩ g u (by show g ≠ b; omega)).trans hh, r⟩
/-- one change more: the row grows, the variable is written -/
theorem out_step {ob N gg cap : Nat} {w w1 w2 w3 : World} {v v' : Value} {l2 : List P32.CV} {c : P32.CV} (o : Obj) (hO : OutIs w1 ob v' l2) (hT : Turned ob w v w1 v') (hB : Below ob w w1) (hd : Below w1.heap.size w1 w2)
    (hown : w3.ownsRow (ob + 1) 87 4 (.slice (some ⟨gg, 0, none⟩) (N + 1) cap) (N + 1) (ccells l2 ++ c.cells)) (hN : l2.length = N) (hgr : (w2.alloc o).grownBy w3 v'.ownBlock) (hat : v'.ownBlock = some gg ∨ gg = w2.heap.size + 1) :
    OutIs (w3.setCell ⟨ob, 0, none⟩ (.slice (some ⟨gg, 0, none⟩) (N + 1) cap)) ob (.slice (some ⟨gg, 0, none⟩) (N + 1) cap) (l2 ++ [c]) ∧ Turned ob w v (w3.setCell ⟨ob, 0, none⟩ (.slice (some ⟨gg, 0, none⟩) (N + 1) cap)) (.slice (some ⟨gg, 0, none⟩) (N + 1) cap) ∧ Below ob w (w3.setCell ⟨ob, 0, none⟩ (.slice (some ⟨gg, 0, none⟩) (N + 1) cap)) := by
  have hO2 := (hO.below hd).below ((Below.refl _ _).alloc (Nat.le_refl _) o)
  have hs : (w2.alloc o).heap.size = w2.heap.size + 1 := by simp
  have hob := hO2.lt
  have hob1 := hO.lt
  have hdz := hd.size
  have hgz := hgr.size
  have hvb : ∀ k, v'.ownBlock = some k → ob + 1 ≤ k := fun k q => (hO2.2.lt k q).1
  have hB3 : Blk w3 ob 81 #[v'] := blk_grown hO2.1 hO2.2 hgr (Nat.lt_succ_self _)
  refine ⟨⟨?_, ?_⟩, hT.trans ⟨?_, ?_, ?_⟩, ?_⟩
  · have q := hB3.set_ 0 (.slice (some ⟨gg, 0, none⟩) (N + 1) cap)
    exact q
  · rw [ccells_snoc, List.length_append, hN]
    exact own_far hown ob (Nat.lt_succ_self _) _
  · simp only [size_setCell']
    omega
  · intro k hk h1 h2
    refine (heap_setCell_other w3 ⟨ob, 0, none⟩ k _ h1).trans ((hgr.block k (by omega) h2).trans ?_)
    exact (Below.heap_alloc w2 o k (by omega)).trans (hd.block k hk)
  · intro k hk
    simp only [Value.ownBlock, Option.some.injEq] at hk
    subst hk
    rcases hat with q | q
    · exact .inl q
    · exact .inr (by omega)
  · have h2 : Below ob w (w2.alloc o) := ((hB.trans (hd.mono (Nat.le_of_lt hob1))).alloc (by omega) o)
    exact (h2.grown hgr (by omega) (fun k q => Nat.le_of_succ_le (hvb k q))).setCell (p := ⟨ob, 0, none⟩) (Nat.le_refl _) _
theorem cellq {ob : Nat} {w1 w2 w3 : World} {v' : Value} {l2 : List P32.CV} {o : Obj} (hO : OutIs w1 ob v' l2) (hd : Below w1.heap.size w1 w2) (hgr : (w2.alloc o).grownBy w3 v'.ownBlock) : w3.cell? ⟨ob, 0, none⟩ = some v' := by
  have hO2 := (hO.below hd).below ((Below.refl _ _).alloc (Nat.le_refl _) o)
  exact ((blk_grown hO2.1 hO2.2 hgr (Nat.lt_succ_self _)).cell 0).trans rfl
theorem frozenq {ob : Nat} {w1 w2 w3 : World} {v' : Value} {l2 : List P32.CV} {o : Obj} (hO : OutIs w1 ob v' l2) (hd : Below w1.heap.size w1 w2) (hgr : (w2.alloc o).grownBy w3 v'.ownBlock) : w3.frozen? ⟨ob, 0, none⟩ = false := by
  have hO2 := (hO.below hd).below ((Below.refl _ _).alloc (Nat.le_refl _) o)
  exact (blk_grown hO2.1 hO2.2 hgr (Nat.lt_succ_self _)).frozen 0
theorem turned_cell {ob ib : Nat} {w : World} {v u : Value} (hz : w.cell? ⟨ib, 0, none⟩ = some u) (hib : ib < w.heap.size) (h1 : ib ≠ ob) (h2 : some ib ≠ v.ownBlock) : ∀ W v1, Turned ob w v W v1 → W.cell? ⟨ib, 0, none⟩ = some u ∧ ib < W.heap.size :=
  fun W v1 h => ⟨(World.cell?_of_block (h.kept ib hib h1 h2)).trans hz, Nat.lt_of_lt_of_le hib h.size⟩
/-- what each answers -/
def EachRes {α : Type} (same : α → α → Bool) (diff : α → α → Int) (mk : Nat → Int → P32.CV) (LA LB : List α) (ob : Nat) (w : World) (v : Value) (l : List P32.CV) (e : Ending) (w' : World) : Prop :=
  (P32.okAll same LA LB ∧ e = .returned (.bool true) ∧ ∃ v', OutIs w' ob v' (l ++ P32.ch diff mk LA LB LA.length) ∧ Turned ob w v w' v' ∧ Below ob w w') ∨ (¬ P32.okAll same LA LB ∧ e = .returned (.bool false) ∧ Below ob w w' ∧ ∃ v', Turned ob w v w' v')

theorem keep_each_rules {wr w1 : World} {ga oa gb oB k : Nat} {a b : RV} (h : wr.cell? ⟨ga, oa + k * 11, none⟩ = some (.string a.name) ∧ wr.cell? ⟨ga, oa + k * 11 + 1, none⟩ = some (.int .i64 a.frm) ∧ wr.cell? ⟨ga, oa + k * 11 + 2, none⟩ = some (.int .i64 a.til) ∧ wr.cell? ⟨ga, oa + k * 11 + 3, none⟩ = some (.int .i64 a.month) ∧ wr.cell? ⟨ga, oa + k * 11 + 4, none⟩ = some (.int .i64 a.dk) ∧ wr.cell? ⟨ga, oa + k * 11 + 5, none⟩ = some (.int .i64 a.dw) ∧ wr.cell? ⟨ga, oa + k * 11 + 6, none⟩ = some (.int .i64 a.dd) ∧ wr.cell? ⟨ga, oa + k * 11 + 7, none⟩ = some (.int .i64 a.asec) ∧ wr.cell? ⟨ga, oa + k * 11 + 8, none⟩ = some (.int .i64 a.abase) ∧ wr.cell? ⟨ga, oa + k * 11 + 9, none⟩ = some (.int .i64 a.save) ∧ wr.cell? ⟨ga, oa + k * 11 + 10, none⟩ = some (.string a.letter) ∧ wr.cell? ⟨gb, oB + k * 11, none⟩ = some (.string b.name) ∧ wr.cell? ⟨gb, oB + k * 11 + 1, none⟩ = some (.int .i64 b.frm) ∧ wr.cell? ⟨gb, oB + k * 11 + 2, none⟩ = some (.int .i64 b.til) ∧ wr.cell? ⟨gb, oB + k * 11 + 3, none⟩ = some (.int .i64 b.month) ∧ wr.cell? ⟨gb, oB + k * 11 + 4, none⟩ = some (.int .i64 b.dk) ∧ wr.cell? ⟨gb, oB + k * 11 + 5, none⟩ = some (.int .i64 b.dw) ∧ wr.cell? ⟨gb, oB + k * 11 + 6, none⟩ = some (.int .i64 b.dd) ∧ wr.cell? ⟨gb, oB + k * 11 + 7, none⟩ = some (.int .i64 b.asec) ∧ wr.cell? ⟨gb, oB + k * 11 + 8, none⟩ = some (.int .i64 b.abase) ∧ wr.cell? ⟨gb, oB + k * 11 + 9, none⟩ = some (.int .i64 b.save) ∧ wr.cell? ⟨gb, oB + k * 11 + 10, none⟩ = some (.string b.letter) ∧ Below wr.heap.size wr wr ∧ ga < wr.heap.size ∧ gb < wr.heap.size) (hb : Below wr.heap.size wr w1) : w1.cell? ⟨ga, oa + k * 11, none⟩ = some (.string a.name) ∧ w1.cell? ⟨ga, oa + k * 11 + 1, none⟩ = some (.int .i64 a.frm) ∧ w1.cell? ⟨ga, oa + k * 11 + 2, none⟩ = some (.int .i64 a.til) ∧ w1.cell? ⟨ga, oa + k * 11 + 3, none⟩ = some (.int .i64 a.month) ∧ w1.cell? ⟨ga, oa + k * 11 + 4, none⟩ = some (.int .i64 a.dk) ∧ w1.cell? ⟨ga, oa + k * 11 + 5, none⟩ = some (.int .i64 a.dw) ∧ w1.cell? ⟨ga, oa + k * 11 + 6, none⟩ = some (.int .i64 a.dd) ∧ w1.cell? ⟨ga, oa + k * 11 + 7, none⟩ = some (.int .i64 a.asec) ∧ w1.cell? ⟨ga, oa + k * 11 + 8, none⟩ = some (.int .i64 a.abase) ∧ w1.cell? ⟨ga, oa + k * 11 + 9, none⟩ = some (.int .i64 a.save) ∧ w1.cell? ⟨ga, oa + k * 11 + 10, none⟩ = some (.string a.letter) ∧ w1.cell? ⟨gb, oB + k * 11, none⟩ = some (.string b.name) ∧ w1.cell? ⟨gb, oB + k * 11 + 1, none⟩ = some (.int .i64 b.frm) ∧ w1.cell? ⟨gb, oB + k * 11 + 2, none⟩ = some (.int .i64 b.til) ∧ w1.cell? ⟨gb, oB + k * 11 + 3, none⟩ = some (.int .i64 b.month) ∧ w1.cell? ⟨gb, oB + k * 11 + 4, none⟩ = some (.int .i64 b.dk) ∧ w1.cell? ⟨gb, oB + k * 11 + 5, none⟩ = some (.int .i64 b.dw) ∧ w1.cell? ⟨gb, oB + k * 11 + 6, none⟩ = some (.int .i64 b.dd) ∧ w1.cell? ⟨gb, oB + k * 11 + 7, none⟩ = some (.int .i64 b.asec) ∧ w1.cell? ⟨gb, oB + k * 11 + 8, none⟩ = some (.int .i64 b.abase) ∧ w1.cell? ⟨gb, oB + k * 11 + 9, none⟩ = some (.int .i64 b.save) ∧ w1.cell? ⟨gb, oB + k * 11 + 10, none⟩ = some (.string b.letter) ∧ Below wr.heap.size wr w1 ∧ ga < wr.heap.size ∧ gb < wr.heap.size := by
  obtain ⟨h0, h1, h2, h3, h4, h5, h6, h7, h8, h9, h10, h11, h12, h13, h14, h15, h16, h17, h18, h19, h20, h21, _, hga, hgb⟩ := h
  exact ⟨(hb.cell (p := ⟨ga, oa + k * 11, none⟩) hga).trans h0, (hb.cell (p := ⟨ga, oa + k * 11 + 1, none⟩) hga).trans h1, (hb.cell (p := ⟨ga, oa + k * 11 + 2, none⟩) hga).trans h2, (hb.cell (p := ⟨ga, oa + k * 11 + 3, none⟩) hga).trans h3, (hb.cell (p := ⟨ga, oa + k * 11 + 4, none⟩) hga).trans h4, (hb.cell (p := ⟨ga, oa + k * 11 + 5, none⟩) hga).trans h5, (hb.cell (p := ⟨ga, oa + k * 11 + 6, none⟩) hga).trans h6, (hb.cell (p := ⟨ga, oa + k * 11 + 7, none⟩) hga).trans h7, (hb.cell (p := ⟨ga, oa + k * 11 + 8, none⟩) hga).trans h8, (hb.cell (p := ⟨ga, oa + k * 11 + 9, none⟩) hga).trans h9, (hb.cell (p := ⟨ga, oa + k * 11 + 10, none⟩) hga).trans h10, (hb.cell (p := ⟨gb, oB + k * 11, none⟩) hgb).trans h11, (hb.cell (p := ⟨gb, oB + k * 11 + 1, none⟩) hgb).trans h12, (hb.cell (p := ⟨gb, oB + k * 11 + 2, none⟩) hgb).trans h13, (hb.cell (p := ⟨gb, oB + k * 11 + 3, none⟩) hgb).trans h14, (hb.cell (p := ⟨gb, oB + k * 11 + 4, none⟩) hgb).trans h15, (hb.cell (p := ⟨gb, oB + k * 11 + 5, none⟩) hgb).trans h16, (hb.cell (p := ⟨gb, oB + k * 11 + 6, none⟩) hgb).trans h17, (hb.cell (p := ⟨gb, oB + k * 11 + 7, none⟩) hgb).trans h18, (hb.cell (p := ⟨gb, oB + k * 11 + 8, none⟩) hgb).trans h19, (hb.cell (p := ⟨gb, oB + k * 11 + 9, none⟩) hgb).trans h20, (hb.cell (p := ⟨gb, oB + k * 11 + 10, none⟩) hgb).trans h21, hb, hga, hgb⟩
set_option maxRecDepth 100000 in
set_option maxHeartbeats 8000000 in
theorem each_rules (A B : Option Addr) (ca cb : Nat) (LA LB : List RV) (ob : Nat) (v : Value) (l : List P32.CV) (w0 w : World) (hA : CellsIn 11 RV.cells w0 A LA) (hB : CellsIn 11 RV.cells w0 B LB) (h0 : Below w0.heap.size w0 w) (hle : w0.heap.size ≤ ob) (hO : OutIs w ob v l) (hlen : LA.length ≤ 1000) (hlen2 : l.length ≤ 100000) (hlenB : LB.length ≤ maxLen) :
    Calls Tryd.prog 72 #[.slice A LA.length ca, .slice B LB.length cb, .func (.func 73) #[] #[], .func (.func 74) #[] #[], .pointer (some ⟨ob, 0, none⟩)] w (EachRes P32.sameR P32.diffR P32.mkR LA LB ob w v l) := by
  unfold maxLen at hlenB
  by_cases hnn : LA.length = LB.length
  rotate_left
  · have hb : ((LA.length : Int) != (LB.length : Int)) = true := by rw [bne_iff_ne]; omega
    have hR : EachRes P32.sameR P32.diffR P32.mkR LA LB ob w v l (.returned (.bool false)) w := .inr ⟨fun q => hnn q.1, rfl, Below.refl _ _, v, Turned.refl _ _ _⟩
    have HR := Lib.hid hR
    clear hR hA hB h0 hle hO hnn
    go_enter Tryd.func72, Tryd.ntmps72
    go_wp2_with fail
    go_ret
    exact HR.out
  have hnb : ((LA.length : Int) != (LB.length : Int)) = false := by rw [bne_eq_false_iff_eq]; omega
  have HNN := Lib.hid hnn
  have HA := Lib.hid hA; have HB := Lib.hid hB; have H0 := Lib.hid h0; have HLE := Lib.hid hle
  have hli : (LA.length : Int) ≤ 1000 := by omega
  have HOL := Lib.hid hO.lt
  clear hnn hA hB h0 hle
  go_enter Tryd.func72, Tryd.ntmps72
  go_wp2_with fail
  go_loopw [21] (fun i wr => ∃ (k : Nat) (v' : Value), k ≤ LA.length ∧ i = .int .i64 k ∧ OutIs wr ob v' (l ++ P32.ch P32.diffR P32.mkR LA LB k) ∧ Turned ob w v wr v' ∧ Below ob w wr ∧ Hid (P32.okTo P32.sameR LA LB k)) (fun i _ => LA.length - (intOf i).toNat)
  case atStart => exact ⟨0, v, Nat.zero_le _, rfl, by rw [P32.ch_zero, List.append_nil]; exact hO, Turned.refl _ _ _, Below.refl _ _, Lib.hid (P32.okTo_zero _ _ _)⟩
  case round =>
    clear hO
    obtain ⟨k, v', hk, rfl, hO, hT, hb, hok⟩ := hrel
    have hw0 := H0.out.trans (hb.mono HLE.out)
    by_cases hlt : k < LA.length
    · obtain ⟨a, ha⟩ : ∃ a, LA[k]? = some a := ⟨_, List.getElem?_eq_getElem hlt⟩
      obtain ⟨b, hbk⟩ : ∃ b, LB[k]? = some b := ⟨_, List.getElem?_eq_getElem (by have := HNN.out; omega)⟩
      obtain ⟨ga, oa, rfl, hga, hat⟩ := (HA.out.below hw0) k a ha
      obtain ⟨gb, oB, rfl, hgb, hbt⟩ := (HB.out.below hw0) k b hbk
      have HAT := Lib.hid hat; have HBT := Lib.hid hbt
      have HAK := Lib.hid ha; have HBK := Lib.hid hbk
      have HO := Lib.hid hO; have HT := Lib.hid hT; have HB0 := Lib.hid hb; have HW0 := Lib.hid hw0
      have hki : (k : Int) < (LA.length : Int) := by omega
      have hki2 : (k : Int) < (LB.length : Int) := by have := HNN.out; omega
      have hk0 : (0 : Int) ≤ (k : Int) := by omega
      clear hat hbt ha hbk hO hT hb hw0
      obtain ⟨D, hD⟩ : ∃ D, P32.diffR a b = D := ⟨_, rfl⟩
      obtain ⟨SS, hSS⟩ : ∃ SS, P32.sameR a b = SS := ⟨_, rfl⟩
      have HD := Lib.hid hD; have HSS := Lib.hid hSS
      have cR : Hid (∀ W, Calls Tryd.prog 73 #[.agg #[.string a.name, .int .i64 a.frm, .int .i64 a.til, .int .i64 a.month, .int .i64 a.dk, .int .i64 a.dw, .int .i64 a.dd, .int .i64 a.asec, .int .i64 a.abase, .int .i64 a.save, .string a.letter], .agg #[.string b.name, .int .i64 b.frm, .int .i64 b.til, .int .i64 b.month, .int .i64 b.dk, .int .i64 b.dw, .int .i64 b.dd, .int .i64 b.asec, .int .i64 b.abase, .int .i64 b.save, .string b.letter]] W fun e w' => e = .returned (.tuple #[.int .i64 D, .bool SS]) ∧ Below W.heap.size W w') := Lib.hid (fun W => by have q := rules_any a.name a.frm a.til a.month a.dk a.dw a.dd a.asec a.abase a.save a.letter b.name b.frm b.til b.month b.dk b.dw b.dd b.asec b.abase b.save b.letter D hD W; rw [← hSS]; exact q)
      clear hD hSS
      have HS : Hid (wr.cell? ⟨ga, oa + k * 11, none⟩ = some (.string a.name) ∧ wr.cell? ⟨ga, oa + k * 11 + 1, none⟩ = some (.int .i64 a.frm) ∧ wr.cell? ⟨ga, oa + k * 11 + 2, none⟩ = some (.int .i64 a.til) ∧ wr.cell? ⟨ga, oa + k * 11 + 3, none⟩ = some (.int .i64 a.month) ∧ wr.cell? ⟨ga, oa + k * 11 + 4, none⟩ = some (.int .i64 a.dk) ∧ wr.cell? ⟨ga, oa + k * 11 + 5, none⟩ = some (.int .i64 a.dw) ∧ wr.cell? ⟨ga, oa + k * 11 + 6, none⟩ = some (.int .i64 a.dd) ∧ wr.cell? ⟨ga, oa + k * 11 + 7, none⟩ = some (.int .i64 a.asec) ∧ wr.cell? ⟨ga, oa + k * 11 + 8, none⟩ = some (.int .i64 a.abase) ∧ wr.cell? ⟨ga, oa + k * 11 + 9, none⟩ = some (.int .i64 a.save) ∧ wr.cell? ⟨ga, oa + k * 11 + 10, none⟩ = some (.string a.letter) ∧ wr.cell? ⟨gb, oB + k * 11, none⟩ = some (.string b.name) ∧ wr.cell? ⟨gb, oB + k * 11 + 1, none⟩ = some (.int .i64 b.frm) ∧ wr.cell? ⟨gb, oB + k * 11 + 2, none⟩ = some (.int .i64 b.til) ∧ wr.cell? ⟨gb, oB + k * 11 + 3, none⟩ = some (.int .i64 b.month) ∧ wr.cell? ⟨gb, oB + k * 11 + 4, none⟩ = some (.int .i64 b.dk) ∧ wr.cell? ⟨gb, oB + k * 11 + 5, none⟩ = some (.int .i64 b.dw) ∧ wr.cell? ⟨gb, oB + k * 11 + 6, none⟩ = some (.int .i64 b.dd) ∧ wr.cell? ⟨gb, oB + k * 11 + 7, none⟩ = some (.int .i64 b.asec) ∧ wr.cell? ⟨gb, oB + k * 11 + 8, none⟩ = some (.int .i64 b.abase) ∧ wr.cell? ⟨gb, oB + k * 11 + 9, none⟩ = some (.int .i64 b.save) ∧ wr.cell? ⟨gb, oB + k * 11 + 10, none⟩ = some (.string b.letter) ∧ Below wr.heap.size wr wr ∧ ga < wr.heap.size ∧ gb < wr.heap.size) := Lib.hid ⟨HAT.out 0 _ rfl, HAT.out 1 _ rfl, HAT.out 2 _ rfl, HAT.out 3 _ rfl, HAT.out 4 _ rfl, HAT.out 5 _ rfl, HAT.out 6 _ rfl, HAT.out 7 _ rfl, HAT.out 8 _ rfl, HAT.out 9 _ rfl, HAT.out 10 _ rfl, HBT.out 0 _ rfl, HBT.out 1 _ rfl, HBT.out 2 _ rfl, HBT.out 3 _ rfl, HBT.out 4 _ rfl, HBT.out 5 _ rfl, HBT.out 6 _ rfl, HBT.out 7 _ rfl, HBT.out 8 _ rfl, HBT.out 9 _ rfl, HBT.out 10 _ rfl, Below.refl _ _, hga, hgb⟩
      clear HAT HBT
      go_wp2_with fail
      go_region_held3 (fun W => W.cell? ⟨ga, oa + k * 11, none⟩ = some (.string a.name) ∧ W.cell? ⟨ga, oa + k * 11 + 1, none⟩ = some (.int .i64 a.frm) ∧ W.cell? ⟨ga, oa + k * 11 + 2, none⟩ = some (.int .i64 a.til) ∧ W.cell? ⟨ga, oa + k * 11 + 3, none⟩ = some (.int .i64 a.month) ∧ W.cell? ⟨ga, oa + k * 11 + 4, none⟩ = some (.int .i64 a.dk) ∧ W.cell? ⟨ga, oa + k * 11 + 5, none⟩ = some (.int .i64 a.dw) ∧ W.cell? ⟨ga, oa + k * 11 + 6, none⟩ = some (.int .i64 a.dd) ∧ W.cell? ⟨ga, oa + k * 11 + 7, none⟩ = some (.int .i64 a.asec) ∧ W.cell? ⟨ga, oa + k * 11 + 8, none⟩ = some (.int .i64 a.abase) ∧ W.cell? ⟨ga, oa + k * 11 + 9, none⟩ = some (.int .i64 a.save) ∧ W.cell? ⟨ga, oa + k * 11 + 10, none⟩ = some (.string a.letter) ∧ W.cell? ⟨gb, oB + k * 11, none⟩ = some (.string b.name) ∧ W.cell? ⟨gb, oB + k * 11 + 1, none⟩ = some (.int .i64 b.frm) ∧ W.cell? ⟨gb, oB + k * 11 + 2, none⟩ = some (.int .i64 b.til) ∧ W.cell? ⟨gb, oB + k * 11 + 3, none⟩ = some (.int .i64 b.month) ∧ W.cell? ⟨gb, oB + k * 11 + 4, none⟩ = some (.int .i64 b.dk) ∧ W.cell? ⟨gb, oB + k * 11 + 5, none⟩ = some (.int .i64 b.dw) ∧ W.cell? ⟨gb, oB + k * 11 + 6, none⟩ = some (.int .i64 b.dd) ∧ W.cell? ⟨gb, oB + k * 11 + 7, none⟩ = some (.int .i64 b.asec) ∧ W.cell? ⟨gb, oB + k * 11 + 8, none⟩ = some (.int .i64 b.abase) ∧ W.cell? ⟨gb, oB + k * 11 + 9, none⟩ = some (.int .i64 b.save) ∧ W.cell? ⟨gb, oB + k * 11 + 10, none⟩ = some (.string b.letter) ∧ Below wr.heap.size wr W ∧ ga < wr.heap.size ∧ gb < wr.heap.size) (first | exact HS.out | exact keep_each_rules HS.out hc2 | exact keep_each_rules HS.out ((Below.refl _ _).drew) | assumption) ((go_at_call 73; refine (cR.out _).mono ?_; rintro en w1 ⟨rfl, hc⟩; have hc2 : Below wr.heap.size wr w1 := (Below.refl wr.heap.size wr).drew.trans hc; clear hc))
      rename_i hKeep
      clear hKeep
      have HO1 := Lib.hid (HO.out.below hc2); have HT1 := Lib.hid (HT.out.below hc2); have HB1 := Lib.hid (HB0.out.trans (hc2.mono (Nat.le_trans (Nat.le_of_lt HOL.out) HB0.out.size)))
      clear hc2 HS HO HT HB0 HW0 cR
      cases SS with
      | false =>
        have HR : Hid (EachRes P32.sameR P32.diffR P32.mkR LA LB ob w v l (.returned (.bool false)) w1) := Lib.hid (.inr ⟨P32.okAll_not HAK.out HBK.out HSS.out, rfl, HB1.out, _, HT1.out⟩)
        clear HO1 HT1 HB1 HAK HBK HSS HD hok
        go_wp2_with fail
        go_ret
        exact HR.out
      | true =>
        have HOK := Lib.hid (P32.okTo_succ hok.out HAK.out HBK.out HSS.out)
        have HCH := Lib.hid (P32.ch_succ P32.diffR P32.mkR LA LB k a b HAK.out HBK.out)
        by_cases hz : D = 0
        · have hzb : (D != 0) = false := by simp [hz]
          have HO2 : Hid (OutIs w1 ob v' (l ++ P32.ch P32.diffR P32.mkR LA LB (k + 1))) := Lib.hid (by rw [HCH.out, if_pos (HD.out.trans hz), List.append_nil]; exact HO1.out)
          clear hz HO1 HAK HBK HSS HD hok HCH
          go_wp2_with fail
          go_roundw
          case rel => exact ⟨k + 1, v', by omega, by go_num, HO2.out, HT1.out, HB1.out, HOK⟩
          case measure => simp [intOf]; omega
        · have hzb : (D != 0) = true := by simp [hz]
          have HLS : Hid (l ++ P32.ch P32.diffR P32.mkR LA LB (k + 1) = (l ++ P32.ch P32.diffR P32.mkR LA LB k) ++ [P32.mkR k D]) := Lib.hid (by rw [HCH.out, if_neg (by rw [HD.out]; exact hz), HD.out, ← List.append_assoc])
          have hcl := P32.ch_len P32.diffR P32.mkR LA LB k
          obtain ⟨N, hN⟩ : ∃ N, (l ++ P32.ch P32.diffR P32.mkR LA LB k).length = N := ⟨_, rfl⟩
          have hN1 : N ≤ 101000 := by rw [← hN, List.length_append]; omega
          have HN := Lib.hid hN
          clear hN hcl hz HAK HBK HSS HD hok HCH
          have b0 : w1.cell? ⟨ob, 0, none⟩ = some v' := (HO1.out.1.cell 0).trans rfl
          have b1 : w1.frozen? ⟨ob, 0, none⟩ = false := HO1.out.1.frozen 0
          obtain ⟨i0, hi, hz0, hz1, hz2⟩ := info_parts infoChange
          have HO2 : Hid (∀ W, Below w1.heap.size w1 W → W.ownsRow (ob + 1) 87 4 v' N (ccells (l ++ P32.ch P32.diffR P32.mkR LA LB k))) := Lib.hid (fun W h => by have q := (HO1.out.below h).2; rw [HN.out] at q; exact q)
          go_wp2_with fail
          go_region_law (first | (refine step_append_lies _ (by rfl) _ _ _ (by rfl) (ob + 1) 87 i0 _ 4 32 Tryd.underlying81 hi hz0 hz1 hz2 rfl (by omega) v' N (ccells (l ++ P32.ch P32.diffR P32.mkR LA LB k)) (by rfl) ((HO2.out _ hd2).alloc _) ⟨w2.heap.size, 0, none⟩ 1 1 (P32.mkR k D).cells (by rfl) (by rfl) (blk_cells (Blk.new w2 _ #[.int .i64 1, .int .i64 k, .int .i64 0, .int .i64 D])) (by simp [P32.mkR, P32.CV.cells, Value.oneCell']) (by omega) (by simp only [maxLen]; omega) (by omega) (by have := HO1.out.lt; have := hd2.size; simp; omega) (w2.heap.size + 1) (by simp) ?_; intro gg cap w3 hown hgr hat hlt3; have c0 : w3.cell? ⟨ob, 0, none⟩ = some v' := cellq HO1.out hd2 hgr; have c1 : w3.frozen? ⟨ob, 0, none⟩ = false := frozenq HO1.out hd2 hgr) | (go_simp; go_at_call 74; refine (place1_any _ _).mono ?_; rintro en w2 ⟨rfl, hd⟩; have hd2 : Below w1.heap.size w1 w2 := (Below.refl w1.heap.size w1).drew.trans hd; have e0 : w2.cell? ⟨ob, 0, none⟩ = some v' := (hd2.cell (p := ⟨ob, 0, none⟩) HO1.out.lt).trans b0; have e1 : ob < w2.heap.size := Nat.lt_of_lt_of_le HO1.out.lt hd2.size; clear hd))
          all_goals
            have hfin := out_step (c := P32.mkR k D) _ HO1.out HT1.out HB1.out hd2 hown HN.out hgr hat
            rw [show (l ++ P32.ch P32.diffR P32.mkR LA LB k) ++ [P32.mkR k D] = l ++ P32.ch P32.diffR P32.mkR LA LB (k + 1) from HLS.out.symm] at hfin
            have HFIN := Lib.hid hfin
            clear hfin b0 b1 c0 c1 e0 e1 hd2 hown hgr hat hlt3 HO1 HT1 HB1 HO2 HN HLS hi hz0 hz1 hz2
            go_wp2_with fail
            go_roundw
            case rel => exact ⟨k + 1, _, by omega, by go_num, HFIN.out.1, HFIN.out.2.1, HFIN.out.2.2, HOK⟩
            case measure => simp [intOf]; omega
    · obtain rfl : k = LA.length := by omega
      have hki : ¬ (LA.length : Int) < (LA.length : Int) := by omega
      have HR : Hid (EachRes P32.sameR P32.diffR P32.mkR LA LB ob w v l (.returned (.bool true)) wr) := Lib.hid (.inl ⟨⟨HNN.out, hok.out⟩, rfl, v', hO, hT, hb⟩)
      clear hO hT hb hok hw0
      go_wp2_with fail
      go_ret
      exact HR.out
theorem keep_each_eras {wr w1 : World} {ga oa gb oB k : Nat} {a b : EV} (h : wr.cell? ⟨ga, oa + k * 13, none⟩ = some (.int .i64 a.off) ∧ wr.cell? ⟨ga, oa + k * 13 + 1, none⟩ = some (.int .i64 a.kind) ∧ wr.cell? ⟨ga, oa + k * 13 + 2, none⟩ = some (.int .i64 a.save) ∧ wr.cell? ⟨ga, oa + k * 13 + 3, none⟩ = some (.string a.set) ∧ wr.cell? ⟨ga, oa + k * 13 + 4, none⟩ = some (.string a.fmt) ∧ wr.cell? ⟨ga, oa + k * 13 + 5, none⟩ = some (.bool a.ui) ∧ wr.cell? ⟨ga, oa + k * 13 + 6, none⟩ = some (.int .i64 a.uy) ∧ wr.cell? ⟨ga, oa + k * 13 + 7, none⟩ = some (.int .i64 a.um) ∧ wr.cell? ⟨ga, oa + k * 13 + 8, none⟩ = some (.int .i64 a.dk) ∧ wr.cell? ⟨ga, oa + k * 13 + 9, none⟩ = some (.int .i64 a.dw) ∧ wr.cell? ⟨ga, oa + k * 13 + 10, none⟩ = some (.int .i64 a.dd) ∧ wr.cell? ⟨ga, oa + k * 13 + 11, none⟩ = some (.int .i64 a.asec) ∧ wr.cell? ⟨ga, oa + k * 13 + 12, none⟩ = some (.int .i64 a.ab) ∧ wr.cell? ⟨gb, oB + k * 13, none⟩ = some (.int .i64 b.off) ∧ wr.cell? ⟨gb, oB + k * 13 + 1, none⟩ = some (.int .i64 b.kind) ∧ wr.cell? ⟨gb, oB + k * 13 + 2, none⟩ = some (.int .i64 b.save) ∧ wr.cell? ⟨gb, oB + k * 13 + 3, none⟩ = some (.string b.set) ∧ wr.cell? ⟨gb, oB + k * 13 + 4, none⟩ = some (.string b.fmt) ∧ wr.cell? ⟨gb, oB + k * 13 + 5, none⟩ = some (.bool b.ui) ∧ wr.cell? ⟨gb, oB + k * 13 + 6, none⟩ = some (.int .i64 b.uy) ∧ wr.cell? ⟨gb, oB + k * 13 + 7, none⟩ = some (.int .i64 b.um) ∧ wr.cell? ⟨gb, oB + k * 13 + 8, none⟩ = some (.int .i64 b.dk) ∧ wr.cell? ⟨gb, oB + k * 13 + 9, none⟩ = some (.int .i64 b.dw) ∧ wr.cell? ⟨gb, oB + k * 13 + 10, none⟩ = some (.int .i64 b.dd) ∧ wr.cell? ⟨gb, oB + k * 13 + 11, none⟩ = some (.int .i64 b.asec) ∧ wr.cell? ⟨gb, oB + k * 13 + 12, none⟩ = some (.int .i64 b.ab) ∧ Below wr.heap.size wr wr ∧ ga < wr.heap.size ∧ gb < wr.heap.size) (hb : Below wr.heap.size wr w1) : w1.cell? ⟨ga, oa + k * 13, none⟩ = some (.int .i64 a.off) ∧ w1.cell? ⟨ga, oa + k * 13 + 1, none⟩ = some (.int .i64 a.kind) ∧ w1.cell? ⟨ga, oa + k * 13 + 2, none⟩ = some (.int .i64 a.save) ∧ w1.cell? ⟨ga, oa + k * 13 + 3, none⟩ = some (.string a.set) ∧ w1.cell? ⟨ga, oa + k * 13 + 4, none⟩ = some (.string a.fmt) ∧ w1.cell? ⟨ga, oa + k * 13 + 5, none⟩ = some (.bool a.ui) ∧ w1.cell? ⟨ga, oa + k * 13 + 6, none⟩ = some (.int .i64 a.uy) ∧ w1.cell? ⟨ga, oa + k * 13 + 7, none⟩ = some (.int .i64 a.um) ∧ w1.cell? ⟨ga, oa + k * 13 + 8, none⟩ = some (.int .i64 a.dk) ∧ w1.cell? ⟨ga, oa + k * 13 + 9, none⟩ = some (.int .i64 a.dw) ∧ w1.cell? ⟨ga, oa + k * 13 + 10, none⟩ = some (.int .i64 a.dd) ∧ w1.cell? ⟨ga, oa + k * 13 + 11, none⟩ = some (.int .i64 a.asec) ∧ w1.cell? ⟨ga, oa + k * 13 + 12, none⟩ = some (.int .i64 a.ab) ∧ w1.cell? ⟨gb, oB + k * 13, none⟩ = some (.int .i64 b.off) ∧ w1.cell? ⟨gb, oB + k * 13 + 1, none⟩ = some (.int .i64 b.kind) ∧ w1.cell? ⟨gb, oB + k * 13 + 2, none⟩ = some (.int .i64 b.save) ∧ w1.cell? ⟨gb, oB + k * 13 + 3, none⟩ = some (.string b.set) ∧ w1.cell? ⟨gb, oB + k * 13 + 4, none⟩ = some (.string b.fmt) ∧ w1.cell? ⟨gb, oB + k * 13 + 5, none⟩ = some (.bool b.ui) ∧ w1.cell? ⟨gb, oB + k * 13 + 6, none⟩ = some (.int .i64 b.uy) ∧ w1.cell? ⟨gb, oB + k * 13 + 7, none⟩ = some (.int .i64 b.um) ∧ w1.cell? ⟨gb, oB + k * 13 + 8, none⟩ = some (.int .i64 b.dk) ∧ w1.cell? ⟨gb, oB + k * 13 + 9, none⟩ = some (.int .i64 b.dw) ∧ w1.cell? ⟨gb, oB + k * 13 + 10, none⟩ = some (.int .i64 b.dd) ∧ w1.cell? ⟨gb, oB + k * 13 + 11, none⟩ = some (.int .i64 b.asec) ∧ w1.cell? ⟨gb, oB + k * 13 + 12, none⟩ = some (.int .i64 b.ab) ∧ Below wr.heap.size wr w1 ∧ ga < wr.heap.size ∧ gb < wr.heap.size := by
  obtain ⟨h0, h1, h2, h3, h4, h5, h6, h7, h8, h9, h10, h11, h12, h13, h14, h15, h16, h17, h18, h19, h20, h21, h22, h23, h24, h25, _, hga, hgb⟩ := h
  exact ⟨(hb.cell (p := ⟨ga, oa + k * 13, none⟩) hga).trans h0, (hb.cell (p := ⟨ga, oa + k * 13 + 1, none⟩) hga).trans h1, (hb.cell (p := ⟨ga, oa + k * 13 + 2, none⟩) hga).trans h2, (hb.cell (p := ⟨ga, oa + k * 13 + 3, none⟩) hga).trans h3, (hb.cell (p := ⟨ga, oa + k * 13 + 4, none⟩) hga).trans h4, (hb.cell (p := ⟨ga, oa + k * 13 + 5, none⟩) hga).trans h5, (hb.cell (p := ⟨ga, oa + k * 13 + 6, none⟩) hga).trans h6, (hb.cell (p := ⟨ga, oa + k * 13 + 7, none⟩) hga).trans h7, (hb.cell (p := ⟨ga, oa + k * 13 + 8, none⟩) hga).trans h8, (hb.cell (p := ⟨ga, oa + k * 13 + 9, none⟩) hga).trans h9, (hb.cell (p := ⟨ga, oa + k * 13 + 10, none⟩) hga).trans h10, (hb.cell (p := ⟨ga, oa + k * 13 + 11, none⟩) hga).trans h11, (hb.cell (p := ⟨ga, oa + k * 13 + 12, none⟩) hga).trans h12, (hb.cell (p := ⟨gb, oB + k * 13, none⟩) hgb).trans h13, (hb.cell (p := ⟨gb, oB + k * 13 + 1, none⟩) hgb).trans h14, (hb.cell (p := ⟨gb, oB + k * 13 + 2, none⟩) hgb).trans h15, (hb.cell (p := ⟨gb, oB + k * 13 + 3, none⟩) hgb).trans h16, (hb.cell (p := ⟨gb, oB + k * 13 + 4, none⟩) hgb).trans h17, (hb.cell (p := ⟨gb, oB + k * 13 + 5, none⟩) hgb).trans h18, (hb.cell (p := ⟨gb, oB + k * 13 + 6, none⟩) hgb).trans h19, (hb.cell (p := ⟨gb, oB + k * 13 + 7, none⟩) hgb).trans h20, (hb.cell (p := ⟨gb, oB + k * 13 + 8, none⟩) hgb).trans h21, (hb.cell (p := ⟨gb, oB + k * 13 + 9, none⟩) hgb).trans h22, (hb.cell (p := ⟨gb, oB + k * 13 + 10, none⟩) hgb).trans h23, (hb.cell (p := ⟨gb, oB + k * 13 + 11, none⟩) hgb).trans h24, (hb.cell (p := ⟨gb, oB + k * 13 + 12, none⟩) hgb).trans h25, hb, hga, hgb⟩
set_option maxRecDepth 100000 in
set_option maxHeartbeats 8000000 in
theorem each_eras (A B : Option Addr) (ca cb : Nat) (LA LB : List EV) (ob : Nat) (v : Value) (l : List P32.CV) (w0 w : World) (zi ib : Nat) (hz : w.cell? ⟨ib, 0, none⟩ = some (.int .i64 zi)) (hib : ib < w.heap.size) (hi1 : ib ≠ ob) (hi2 : some ib ≠ v.ownBlock) (hA : CellsIn 13 EV.cells w0 A LA) (hB : CellsIn 13 EV.cells w0 B LB) (h0 : Below w0.heap.size w0 w) (hle : w0.heap.size ≤ ob) (hO : OutIs w ob v l) (hlen : LA.length ≤ 1000) (hlen2 : l.length ≤ 100000) (hlenB : LB.length ≤ maxLen) :
    Calls Tryd.prog 75 #[.slice A LA.length ca, .slice B LB.length cb, .func (.func 76) #[] #[], .func (.func 77) #[] #[.pointer (some ⟨ib, 0, none⟩)], .pointer (some ⟨ob, 0, none⟩)] w (EachRes P32.sameE P32.diffE (P32.mkE zi) LA LB ob w v l) := by
  unfold maxLen at hlenB
  have HZ := Lib.hid (turned_cell hz hib hi1 hi2); clear hz hib hi1 hi2
  by_cases hnn : LA.length = LB.length
  rotate_left
  · have hb : ((LA.length : Int) != (LB.length : Int)) = true := by rw [bne_iff_ne]; omega
    have hR : EachRes P32.sameE P32.diffE (P32.mkE zi) LA LB ob w v l (.returned (.bool false)) w := .inr ⟨fun q => hnn q.1, rfl, Below.refl _ _, v, Turned.refl _ _ _⟩
    have HR := Lib.hid hR
    clear hR hA hB h0 hle hO hnn
    go_enter Tryd.func75, Tryd.ntmps75
    go_wp2_with fail
    go_ret
    exact HR.out
  have hnb : ((LA.length : Int) != (LB.length : Int)) = false := by rw [bne_eq_false_iff_eq]; omega
  have HNN := Lib.hid hnn
  have HA := Lib.hid hA; have HB := Lib.hid hB; have H0 := Lib.hid h0; have HLE := Lib.hid hle
  have hli : (LA.length : Int) ≤ 1000 := by omega
  have HOL := Lib.hid hO.lt
  clear hnn hA hB h0 hle
  go_enter Tryd.func75, Tryd.ntmps75
  go_wp2_with fail
  go_loopw [21] (fun i wr => ∃ (k : Nat) (v' : Value), k ≤ LA.length ∧ i = .int .i64 k ∧ OutIs wr ob v' (l ++ P32.ch P32.diffE (P32.mkE zi) LA LB k) ∧ Turned ob w v wr v' ∧ Below ob w wr ∧ Hid (P32.okTo P32.sameE LA LB k)) (fun i _ => LA.length - (intOf i).toNat)
  case atStart => exact ⟨0, v, Nat.zero_le _, rfl, by rw [P32.ch_zero, List.append_nil]; exact hO, Turned.refl _ _ _, Below.refl _ _, Lib.hid (P32.okTo_zero _ _ _)⟩
  case round =>
    clear hO
    obtain ⟨k, v', hk, rfl, hO, hT, hb, hok⟩ := hrel
    have hw0 := H0.out.trans (hb.mono HLE.out)
    by_cases hlt : k < LA.length
    · obtain ⟨a, ha⟩ : ∃ a, LA[k]? = some a := ⟨_, List.getElem?_eq_getElem hlt⟩
      obtain ⟨b, hbk⟩ : ∃ b, LB[k]? = some b := ⟨_, List.getElem?_eq_getElem (by have := HNN.out; omega)⟩
      obtain ⟨ga, oa, rfl, hga, hat⟩ := (HA.out.below hw0) k a ha
      obtain ⟨gb, oB, rfl, hgb, hbt⟩ := (HB.out.below hw0) k b hbk
      have HAT := Lib.hid hat; have HBT := Lib.hid hbt
      have HAK := Lib.hid ha; have HBK := Lib.hid hbk
      have HO := Lib.hid hO; have HT := Lib.hid hT; have HB0 := Lib.hid hb; have HW0 := Lib.hid hw0
      have hki : (k : Int) < (LA.length : Int) := by omega
      have hki2 : (k : Int) < (LB.length : Int) := by have := HNN.out; omega
      have hk0 : (0 : Int) ≤ (k : Int) := by omega
      clear hat hbt ha hbk hO hT hb hw0
      obtain ⟨D, hD⟩ : ∃ D, P32.diffE a b = D := ⟨_, rfl⟩
      obtain ⟨SS, hSS⟩ : ∃ SS, P32.sameE a b = SS := ⟨_, rfl⟩
      have HD := Lib.hid hD; have HSS := Lib.hid hSS
      have cR : Hid (∀ W, Calls Tryd.prog 76 #[.agg #[.int .i64 a.off, .int .i64 a.kind, .int .i64 a.save, .string a.set, .string a.fmt, .bool a.ui, .int .i64 a.uy, .int .i64 a.um, .int .i64 a.dk, .int .i64 a.dw, .int .i64 a.dd, .int .i64 a.asec, .int .i64 a.ab], .agg #[.int .i64 b.off, .int .i64 b.kind, .int .i64 b.save, .string b.set, .string b.fmt, .bool b.ui, .int .i64 b.uy, .int .i64 b.um, .int .i64 b.dk, .int .i64 b.dw, .int .i64 b.dd, .int .i64 b.asec, .int .i64 b.ab]] W fun e w' => e = .returned (.tuple #[.int .i64 D, .bool SS]) ∧ Below W.heap.size W w') := Lib.hid (fun W => by have q := eras_any a.off a.kind a.save a.set a.fmt a.ui a.uy a.um a.dk a.dw a.dd a.asec a.ab b.off b.kind b.save b.set b.fmt b.ui b.uy b.um b.dk b.dw b.dd b.asec b.ab D hD W; rw [← hSS]; exact q)
      clear hD hSS
      have HS : Hid (wr.cell? ⟨ga, oa + k * 13, none⟩ = some (.int .i64 a.off) ∧ wr.cell? ⟨ga, oa + k * 13 + 1, none⟩ = some (.int .i64 a.kind) ∧ wr.cell? ⟨ga, oa + k * 13 + 2, none⟩ = some (.int .i64 a.save) ∧ wr.cell? ⟨ga, oa + k * 13 + 3, none⟩ = some (.string a.set) ∧ wr.cell? ⟨ga, oa + k * 13 + 4, none⟩ = some (.string a.fmt) ∧ wr.cell? ⟨ga, oa + k * 13 + 5, none⟩ = some (.bool a.ui) ∧ wr.cell? ⟨ga, oa + k * 13 + 6, none⟩ = some (.int .i64 a.uy) ∧ wr.cell? ⟨ga, oa + k * 13 + 7, none⟩ = some (.int .i64 a.um) ∧ wr.cell? ⟨ga, oa + k * 13 + 8, none⟩ = some (.int .i64 a.dk) ∧ wr.cell? ⟨ga, oa + k * 13 + 9, none⟩ = some (.int .i64 a.dw) ∧ wr.cell? ⟨ga, oa + k * 13 + 10, none⟩ = some (.int .i64 a.dd) ∧ wr.cell? ⟨ga, oa + k * 13 + 11, none⟩ = some (.int .i64 a.asec) ∧ wr.cell? ⟨ga, oa + k * 13 + 12, none⟩ = some (.int .i64 a.ab) ∧ wr.cell? ⟨gb, oB + k * 13, none⟩ = some (.int .i64 b.off) ∧ wr.cell? ⟨gb, oB + k * 13 + 1, none⟩ = some (.int .i64 b.kind) ∧ wr.cell? ⟨gb, oB + k * 13 + 2, none⟩ = some (.int .i64 b.save) ∧ wr.cell? ⟨gb, oB + k * 13 + 3, none⟩ = some (.string b.set) ∧ wr.cell? ⟨gb, oB + k * 13 + 4, none⟩ = some (.string b.fmt) ∧ wr.cell? ⟨gb, oB + k * 13 + 5, none⟩ = some (.bool b.ui) ∧ wr.cell? ⟨gb, oB + k * 13 + 6, none⟩ = some (.int .i64 b.uy) ∧ wr.cell? ⟨gb, oB + k * 13 + 7, none⟩ = some (.int .i64 b.um) ∧ wr.cell? ⟨gb, oB + k * 13 + 8, none⟩ = some (.int .i64 b.dk) ∧ wr.cell? ⟨gb, oB + k * 13 + 9, none⟩ = some (.int .i64 b.dw) ∧ wr.cell? ⟨gb, oB + k * 13 + 10, none⟩ = some (.int .i64 b.dd) ∧ wr.cell? ⟨gb, oB + k * 13 + 11, none⟩ = some (.int .i64 b.asec) ∧ wr.cell? ⟨gb, oB + k * 13 + 12, none⟩ = some (.int .i64 b.ab) ∧ Below wr.heap.size wr wr ∧ ga < wr.heap.size ∧ gb < wr.heap.size) := Lib.hid ⟨HAT.out 0 _ rfl, HAT.out 1 _ rfl, HAT.out 2 _ rfl, HAT.out 3 _ rfl, HAT.out 4 _ rfl, HAT.out 5 _ rfl, HAT.out 6 _ rfl, HAT.out 7 _ rfl, HAT.out 8 _ rfl, HAT.out 9 _ rfl, HAT.out 10 _ rfl, HAT.out 11 _ rfl, HAT.out 12 _ rfl, HBT.out 0 _ rfl, HBT.out 1 _ rfl, HBT.out 2 _ rfl, HBT.out 3 _ rfl, HBT.out 4 _ rfl, HBT.out 5 _ rfl, HBT.out 6 _ rfl, HBT.out 7 _ rfl, HBT.out 8 _ rfl, HBT.out 9 _ rfl, HBT.out 10 _ rfl, HBT.out 11 _ rfl, HBT.out 12 _ rfl, Below.refl _ _, hga, hgb⟩
      clear HAT HBT
      go_wp2_with fail
      go_region_held3 (fun W => W.cell? ⟨ga, oa + k * 13, none⟩ = some (.int .i64 a.off) ∧ W.cell? ⟨ga, oa + k * 13 + 1, none⟩ = some (.int .i64 a.kind) ∧ W.cell? ⟨ga, oa + k * 13 + 2, none⟩ = some (.int .i64 a.save) ∧ W.cell? ⟨ga, oa + k * 13 + 3, none⟩ = some (.string a.set) ∧ W.cell? ⟨ga, oa + k * 13 + 4, none⟩ = some (.string a.fmt) ∧ W.cell? ⟨ga, oa + k * 13 + 5, none⟩ = some (.bool a.ui) ∧ W.cell? ⟨ga, oa + k * 13 + 6, none⟩ = some (.int .i64 a.uy) ∧ W.cell? ⟨ga, oa + k * 13 + 7, none⟩ = some (.int .i64 a.um) ∧ W.cell? ⟨ga, oa + k * 13 + 8, none⟩ = some (.int .i64 a.dk) ∧ W.cell? ⟨ga, oa + k * 13 + 9, none⟩ = some (.int .i64 a.dw) ∧ W.cell? ⟨ga, oa + k * 13 + 10, none⟩ = some (.int .i64 a.dd) ∧ W.cell? ⟨ga, oa + k * 13 + 11, none⟩ = some (.int .i64 a.asec) ∧ W.cell? ⟨ga, oa + k * 13 + 12, none⟩ = some (.int .i64 a.ab) ∧ W.cell? ⟨gb, oB + k * 13, none⟩ = some (.int .i64 b.off) ∧ W.cell? ⟨gb, oB + k * 13 + 1, none⟩ = some (.int .i64 b.kind) ∧ W.cell? ⟨gb, oB + k * 13 + 2, none⟩ = some (.int .i64 b.save) ∧ W.cell? ⟨gb, oB + k * 13 + 3, none⟩ = some (.string b.set) ∧ W.cell? ⟨gb, oB + k * 13 + 4, none⟩ = some (.string b.fmt) ∧ W.cell? ⟨gb, oB + k * 13 + 5, none⟩ = some (.bool b.ui) ∧ W.cell? ⟨gb, oB + k * 13 + 6, none⟩ = some (.int .i64 b.uy) ∧ W.cell? ⟨gb, oB + k * 13 + 7, none⟩ = some (.int .i64 b.um) ∧ W.cell? ⟨gb, oB + k * 13 + 8, none⟩ = some (.int .i64 b.dk) ∧ W.cell? ⟨gb, oB + k * 13 + 9, none⟩ = some (.int .i64 b.dw) ∧ W.cell? ⟨gb, oB + k * 13 + 10, none⟩ = some (.int .i64 b.dd) ∧ W.cell? ⟨gb, oB + k * 13 + 11, none⟩ = some (.int .i64 b.asec) ∧ W.cell? ⟨gb, oB + k * 13 + 12, none⟩ = some (.int .i64 b.ab) ∧ Below wr.heap.size wr W ∧ ga < wr.heap.size ∧ gb < wr.heap.size) (first | exact HS.out | exact keep_each_eras HS.out hc2 | exact keep_each_eras HS.out ((Below.refl _ _).drew) | assumption) ((go_at_call 76; refine (cR.out _).mono ?_; rintro en w1 ⟨rfl, hc⟩; have hc2 : Below wr.heap.size wr w1 := (Below.refl wr.heap.size wr).drew.trans hc; clear hc))
      rename_i hKeep
      clear hKeep
      have HO1 := Lib.hid (HO.out.below hc2); have HT1 := Lib.hid (HT.out.below hc2); have HB1 := Lib.hid (HB0.out.trans (hc2.mono (Nat.le_trans (Nat.le_of_lt HOL.out) HB0.out.size)))
      clear hc2 HS HO HT HB0 HW0 cR
      cases SS with
      | false =>
        have HR : Hid (EachRes P32.sameE P32.diffE (P32.mkE zi) LA LB ob w v l (.returned (.bool false)) w1) := Lib.hid (.inr ⟨P32.okAll_not HAK.out HBK.out HSS.out, rfl, HB1.out, _, HT1.out⟩)
        clear HO1 HT1 HB1 HAK HBK HSS HD hok
        go_wp2_with fail
        go_ret
        exact HR.out
      | true =>
        have HOK := Lib.hid (P32.okTo_succ hok.out HAK.out HBK.out HSS.out)
        have HCH := Lib.hid (P32.ch_succ P32.diffE (P32.mkE zi) LA LB k a b HAK.out HBK.out)
        by_cases hz : D = 0
        · have hzb : (D != 0) = false := by simp [hz]
          have HO2 : Hid (OutIs w1 ob v' (l ++ P32.ch P32.diffE (P32.mkE zi) LA LB (k + 1))) := Lib.hid (by rw [HCH.out, if_pos (HD.out.trans hz), List.append_nil]; exact HO1.out)
          clear hz HO1 HAK HBK HSS HD hok HCH
          go_wp2_with fail
          go_roundw
          case rel => exact ⟨k + 1, v', by omega, by go_num, HO2.out, HT1.out, HB1.out, HOK⟩
          case measure => simp [intOf]; omega
        · have hzb : (D != 0) = true := by simp [hz]
          have HLS : Hid (l ++ P32.ch P32.diffE (P32.mkE zi) LA LB (k + 1) = (l ++ P32.ch P32.diffE (P32.mkE zi) LA LB k) ++ [(P32.mkE zi) k D]) := Lib.hid (by rw [HCH.out, if_neg (by rw [HD.out]; exact hz), HD.out, ← List.append_assoc])
          have hcl := P32.ch_len P32.diffE (P32.mkE zi) LA LB k
          obtain ⟨N, hN⟩ : ∃ N, (l ++ P32.ch P32.diffE (P32.mkE zi) LA LB k).length = N := ⟨_, rfl⟩
          have hN1 : N ≤ 101000 := by rw [← hN, List.length_append]; omega
          have HN := Lib.hid hN
          clear hN hcl hz HAK HBK HSS HD hok HCH
          have b0 : w1.cell? ⟨ob, 0, none⟩ = some v' := (HO1.out.1.cell 0).trans rfl
          have b1 : w1.frozen? ⟨ob, 0, none⟩ = false := HO1.out.1.frozen 0
          obtain ⟨i0, hi, hz0, hz1, hz2⟩ := info_parts infoChange
          have HO2 : Hid (∀ W, Below w1.heap.size w1 W → W.ownsRow (ob + 1) 87 4 v' N (ccells (l ++ P32.ch P32.diffE (P32.mkE zi) LA LB k))) := Lib.hid (fun W h => by have q := (HO1.out.below h).2; rw [HN.out] at q; exact q)
          go_wp2_with fail
          go_region_law (first | (refine step_append_lies _ (by rfl) _ _ _ (by rfl) (ob + 1) 87 i0 _ 4 32 Tryd.underlying81 hi hz0 hz1 hz2 rfl (by omega) v' N (ccells (l ++ P32.ch P32.diffE (P32.mkE zi) LA LB k)) (by rfl) ((HO2.out _ hd2).alloc _) ⟨w2.heap.size, 0, none⟩ 1 1 ((P32.mkE zi) k D).cells (by rfl) (by rfl) (blk_cells (Blk.new w2 _ #[.int .i64 2, .int .i64 zi, .int .i64 k, .int .i64 D])) (by simp [P32.mkE, P32.CV.cells, Value.oneCell']) (by omega) (by simp only [maxLen]; omega) (by omega) (by have := HO1.out.lt; have := hd2.size; simp; omega) (w2.heap.size + 1) (by simp) ?_; intro gg cap w3 hown hgr hat hlt3; have c0 : w3.cell? ⟨ob, 0, none⟩ = some v' := cellq HO1.out hd2 hgr; have c1 : w3.frozen? ⟨ob, 0, none⟩ = false := frozenq HO1.out hd2 hgr) | (go_simp; go_at_call 77; refine (place2_any _ (zi : Int) ib w1.drew (HZ.out _ _ HT1.out).1 (HZ.out _ _ HT1.out).2).mono ?_; rintro en w2 ⟨rfl, hd⟩; have hd2 : Below w1.heap.size w1 w2 := (Below.refl w1.heap.size w1).drew.trans hd; have e0 : w2.cell? ⟨ob, 0, none⟩ = some v' := (hd2.cell (p := ⟨ob, 0, none⟩) HO1.out.lt).trans b0; have e1 : ob < w2.heap.size := Nat.lt_of_lt_of_le HO1.out.lt hd2.size; clear hd))
          all_goals
            have hfin := out_step (c := (P32.mkE zi) k D) _ HO1.out HT1.out HB1.out hd2 hown HN.out hgr hat
            rw [show (l ++ P32.ch P32.diffE (P32.mkE zi) LA LB k) ++ [(P32.mkE zi) k D] = l ++ P32.ch P32.diffE (P32.mkE zi) LA LB (k + 1) from HLS.out.symm] at hfin
            have HFIN := Lib.hid hfin
            clear hfin b0 b1 c0 c1 e0 e1 hd2 hown hgr hat hlt3 HO1 HT1 HB1 HO2 HN HLS hi hz0 hz1 hz2
            go_wp2_with fail
            go_roundw
            case rel => exact ⟨k + 1, _, by omega, by go_num, HFIN.out.1, HFIN.out.2.1, HFIN.out.2.2, HOK⟩
            case measure => simp [intOf]; omega
    · obtain rfl : k = LA.length := by omega
      have hki : ¬ (LA.length : Int) < (LA.length : Int) := by omega
      have HR : Hid (EachRes P32.sameE P32.diffE (P32.mkE zi) LA LB ob w v l (.returned (.bool true)) wr) := Lib.hid (.inl ⟨⟨HNN.out, hok.out⟩, rfl, v', hO, hT, hb⟩)
      clear hO hT hb hok hw0
      go_wp2_with fail
      go_ret
      exact HR.out
end Go.Proofs.YtlideagcmhlkeaaDoor

/- What the walks of Compare are told by (chapter 32). -/
namespace Go.Proofs.YtlideagcmhlkeaaDoor
open Go.RowKit
set_option linter.unusedVariables false

/-- what Compare answers -/
def CmpRes (a b : SV) (w : World) (e : Ending) (w' : World) : Prop :=
  (P32.okS a b ∧ (∃ A c, e = .returned (.tuple #[.slice A (P32.chS a b).length c, .int .i64 0]) ∧ ChIn w' A (P32.chS a b)) ∧ Below w.heap.size w w') ∨ (¬ P32.okS a b ∧ e = .returned (.tuple #[.slice none 0 0, .int .i64 2]) ∧ Below w.heap.size w w')
/-- the parts of a source fit the machine -/
def SrcSz (s : SV) : Prop := s.rules.length ≤ maxLen ∧ s.zones.length ≤ maxLen ∧ s.links.length ≤ maxLen ∧ s.shifts.length ≤ maxLen ∧ ∀ z ∈ s.zones, z.eras.length ≤ maxLen
theorem each_bool {α : Type} {same : α → α → Bool} {diff : α → α → Int} {mk : Nat → Int → P32.CV} {LA LB : List α} {ob : Nat} {w w' : World} {v : Value} {l : List P32.CV} {e : Ending} (h : EachRes same diff mk LA LB ob w v l e w') :
    ∃ (RB : Bool) (v' : Value), e = .returned (.bool RB) ∧ (RB = true → P32.okAll same LA LB ∧ OutIs w' ob v' (l ++ P32.ch diff mk LA LB LA.length)) ∧ (RB = false → ¬ P32.okAll same LA LB) ∧ Turned ob w v w' v' ∧ Below ob w w' := by
  rcases h with ⟨h1, h2, v', h3, h4, h5⟩ | ⟨h1, h2, h3, v', h4⟩
  · exact ⟨true, v', h2, fun _ => ⟨h1, h3⟩, (fun q => nomatch q), h4, h5⟩
  · exact ⟨false, v', h2, (fun q => nomatch q), fun _ => h1, h4, h3⟩
/-- parts enough for what is compared in the laws -/
def fewW (s : SV) : Prop := s.rules.length ≤ 100 ∧ s.zones.length ≤ 100 ∧ s.links.length ≤ 100 ∧ True ∧ ∀ z ∈ s.zones, z.eras.length ≤ 100
theorem few.w {s : SV} (h : few s) : fewW s := ⟨by have := h.1; omega, by have := h.2.1; omega, by have := h.2.2.1; omega, trivial, fun z hz => by have := h.2.2.2.2 z hz; omega⟩
theorem chZ_lenW (Z Y : List ZV) (h : ∀ z ∈ Z, z.eras.length ≤ 100) : ∀ n, (P32.chZ Z Y n).length ≤ n * 100
  | 0 => by simp [P32.chZ]
  | n + 1 => by
    have ih := chZ_lenW Z Y h n
    rw [P32.chZ, List.length_append]
    split
    · rename_i z y hz hy
      have := P32.ch_len P32.diffE (P32.mkE n) z.eras y.eras z.eras.length
      have := h z (List.mem_of_getElem? hz)
      omega
    · simp; omega
theorem out_leW {a b : SV} (h : fewW a) (k : Nat) (hk : k ≤ a.zones.length) : (P32.ch P32.diffR P32.mkR a.rules b.rules a.rules.length ++ P32.chZ a.zones b.zones k).length ≤ 100000 := by
  have h1 := P32.ch_len P32.diffR P32.mkR a.rules b.rules a.rules.length
  have h2 := chZ_lenW a.zones b.zones h.2.2.2.2 k
  have := h.1
  have := h.2.1
  rw [List.length_append]
  omega
theorem chZ_succ (Z Y : List ZV) (n : Nat) (z y : ZV) (hz : Z[n]? = some z) (hy : Y[n]? = some y) : P32.chZ Z Y (n + 1) = P32.chZ Z Y n ++ P32.ch P32.diffE (P32.mkE n) z.eras y.eras z.eras.length := by
  rw [P32.chZ, hz, hy]
theorem okZ_succ {Z Y : List ZV} {k : Nat} {z y : ZV} (h : P32.okZ Z Y k) (hz : Z[k]? = some z) (hy : Y[k]? = some y) (hs : P32.sameZ z y) : P32.okZ Z Y (k + 1) := by
  intro i a b hi ha hb
  by_cases e : i < k
  · exact h i a b e ha hb
  · obtain rfl : i = k := by omega
    rw [hz] at ha; rw [hy] at hb
    injection ha with ha; injection hb with hb
    rw [← ha, ← hb]; exact hs
/-- where the loop over the zones stands -/
structure CmpInv (a b : SV) (w W : World) (ob ib k : Nat) (v : Value) (IS : Bool) : Prop where
  box : Blk W ib 3 #[.int .i64 k]
  far : ob < ib
  bel : Below ob w W
  yes : IS = true → some ib ≠ v.ownBlock ∧ OutIs W ob v (P32.ch P32.diffR P32.mkR a.rules b.rules a.rules.length ++ P32.chZ a.zones b.zones k) ∧ P32.okAll P32.sameR a.rules b.rules ∧ a.zones.length = b.zones.length ∧ P32.okZ a.zones b.zones k ∧ a.links = b.links
  no : IS = false → ¬ P32.okS a b
/-- ahead of the loop over the zones -/
structure CmpPre (a b : SV) (w W : World) (ob : Nat) (v : Value) (IS : Bool) : Prop where
  lt : ob < W.heap.size
  bel : Below ob w W
  yes : IS = true → OutIs W ob v (P32.ch P32.diffR P32.mkR a.rules b.rules a.rules.length) ∧ P32.okAll P32.sameR a.rules b.rules ∧ a.zones.length = b.zones.length ∧ a.links = b.links
  no : IS = false → ¬ P32.okS a b
theorem CmpPre.start {a b : SV} {w W : World} {ob : Nat} {v : Value} {IS : Bool} (h : CmpPre a b w W ob v IS) : CmpInv a b w (W.alloc (.cells #[.int .i64 0] 3)) ob W.heap.size 0 v IS := by
  refine ⟨Blk.new W _ _, h.lt, h.bel.alloc (Nat.le_of_lt h.lt) _, fun q => ?_, h.no⟩
  obtain ⟨h1, h2, h3, h4⟩ := h.yes q
  refine ⟨fun e => ?_, ?_, h2, h3, fun i _ _ hi => by omega, h4⟩
  · have := (h1.2.lt _ e.symm).2
    omega
  · rw [P32.chZ, List.append_nil]
    exact h1.below ((Below.refl _ _).alloc (Nat.le_refl _) _)
theorem inv_no {a b : SV} {w W W' : World} {ob ib k : Nat} {v : Value} (h : CmpInv a b w W ob ib k v true) (hb : Below W.heap.size W W') (hn : ¬ P32.okS a b) : CmpInv a b w (W'.alloc (.cells #[.int .i64 ((k : Int) + 1)] 3)) ob W'.heap.size (k + 1) v false :=
  ⟨Blk.new W' _ _, Nat.lt_of_lt_of_le h.far (Nat.le_trans (Nat.le_of_lt h.box.lt) hb.size), ((h.bel.trans (hb.mono (Nat.le_of_lt (Nat.lt_trans h.far h.box.lt)))).alloc (Nat.le_trans (Nat.le_of_lt (Nat.lt_trans h.far h.box.lt)) hb.size) _), (fun q => nomatch q), fun _ => hn⟩
theorem inv_yes {a b : SV} {w W w5 : World} {ob ib k : Nat} {v v2 : Value} {RB : Bool} {z y : ZV} (h : CmpInv a b w W ob ib k v true) (hT : Turned ob W v w5 v2) (hb : Below ob W w5)
    (hyes : RB = true → P32.okAll P32.sameE z.eras y.eras ∧ OutIs w5 ob v2 ((P32.ch P32.diffR P32.mkR a.rules b.rules a.rules.length ++ P32.chZ a.zones b.zones k) ++ P32.ch P32.diffE (P32.mkE k) z.eras y.eras z.eras.length)) (hno : RB = false → ¬ P32.okAll P32.sameE z.eras y.eras)
    (hz : a.zones[k]? = some z) (hy : b.zones[k]? = some y) (hlt : k < a.zones.length) (hnm : z.name = y.name) : CmpInv a b w (w5.alloc (.cells #[.int .i64 ((k : Int) + 1)] 3)) ob w5.heap.size (k + 1) v2 RB := by
  have hs := hb.size
  have h1 := h.box.lt
  have h2 := h.far
  refine ⟨Blk.new w5 _ _, by omega, (h.bel.trans hb).alloc (by omega) _, fun q => ?_, fun q s => hno q (s.2.2.1 k z y hlt hz hy).2⟩
  obtain ⟨e1, e2⟩ := hyes q
  obtain ⟨y0, y1, y2, y3, y4, y5⟩ := h.yes rfl
  refine ⟨fun e => ?_, ?_, y2, y3, okZ_succ y4 hz hy ⟨hnm, e1⟩, y5⟩
  · have := (e2.2.lt _ e.symm).2
    omega
  · rw [chZ_succ _ _ _ _ _ hz hy, ← List.append_assoc]
    exact e2.below ((Below.refl _ _).alloc (Nat.le_refl _) _)
def mIdx (s : Value) (W : World) : Nat := match s with
  | .pointer (some a) => (match W.cell? a with
    | some (.int _ n) => n.toNat
    | _ => 0)
  | _ => 0
theorem mIdx_eq {W : World} {ib : Nat} {t : TypeId} {k : Nat} (h : Blk W ib t #[.int .i64 k]) : mIdx (.pointer (some ⟨ib, 0, none⟩)) W = k := by
  have q : W.cell? ⟨ib, 0, none⟩ = some (.int .i64 k) := (h.cell 0).trans rfl
  simp [mIdx, q]
theorem mIdx_next (W : World) (k : Nat) : mIdx (.pointer (some ⟨W.heap.size, 0, none⟩)) (W.alloc (.cells #[.int .i64 ((k : Int) + 1)] 3)) = k + 1 := mIdx_eq (k := k + 1) (Blk.new W _ _)
theorem okS_mk {a b : SV} (h1 : P32.okAll P32.sameR a.rules b.rules) (h2 : a.zones.length = b.zones.length) (h3 : P32.okZ a.zones b.zones a.zones.length) (h4 : a.links = b.links) : P32.okS a b := ⟨h1, h2, h3, h4⟩
theorem ccells_at : ∀ (L : List P32.CV) (k j : Nat) (r : P32.CV), j < 4 → L[k]? = some r → (ccells L)[k * 4 + j]? = r.cells[j]?
  | [], k, j, r, _, h => by simp at h
  | c :: L, 0, j, r, hj, h => by
    simp only [List.getElem?_cons_zero, Option.some.injEq] at h
    subst h
    unfold ccells
    rw [List.flatMap_cons, Nat.zero_mul, Nat.zero_add, List.getElem?_append_left (by simpa [P32.CV.cells] using hj)]
  | c :: L, k + 1, j, r, hj, h => by
    simp only [List.getElem?_cons_succ] at h
    have q := ccells_at L k j r hj h
    unfold ccells at q ⊢
    rw [List.flatMap_cons, List.getElem?_append_right (by simp [P32.CV.cells]; omega), show (k + 1) * 4 + j - c.cells.length = k * 4 + j by simp [P32.CV.cells]; omega]
    exact q
theorem ch_of_own {W : World} {ob : Nat} {v : Value} {l : List P32.CV} (h : OutIs W ob v l) : ∃ A c, v = .slice A l.length c ∧ ChIn W A l := by
  by_cases h0 : 0 < l.length
  · obtain ⟨B, cap, hv, hB, hlt, hcap, hc⟩ := own_form h.2 h0
    refine ⟨some ⟨B, 0, none⟩, cap, hv, fun k r hr => ⟨B, 0, rfl, hlt, fun j u hu => ?_⟩⟩
    rw [Nat.zero_add]
    refine hc _ _ ?_
    have hj : j < 4 := by have := (List.getElem?_eq_some_iff.mp hu).1; simpa [P32.CV.cells] using this
    exact (ccells_at l k j r hj hr).trans hu
  · have hl : l = [] := List.eq_nil_of_length_eq_zero (by omega)
    subst hl
    rcases h.2.2 with ⟨hv, _⟩ | ⟨g, cap, cur, hv, _⟩
    · exact ⟨none, 0, hv, CellsIn.nil W none⟩
    · exact ⟨some ⟨g, 0, none⟩, cap, hv, CellsIn.nil W _⟩

end Go.Proofs.YtlideagcmhlkeaaDoor
