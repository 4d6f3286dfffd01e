/- The walk of part.source (chapter 24): a source of some parts. -/
import Derived.Test.YtmhciidliicheaaDoorPst24b
import Derived.Deep.RegionLaw
import Derived.Deep.DeepCutAuto
import Derived.IntWalk
import Derived.OpenShut
namespace Go.Proofs.YtmhciidliicheaaDoor
open Go.RowKit Go.Lib
set_option linter.unusedVariables false
set_option linter.unusedSimpArgs false

theorem infoR24 : (Tryd.prog.info? 38).map (fun i => (i.zero, i.size, i.bytes)) = some (some (.agg #[.string ⟨#[]⟩, .int .i64 0, .int .i64 0, .int .i64 0, .int .i64 0, .int .i64 0, .int .i64 0, .int .i64 0, .int .i64 0, .int .i64 0, .string ⟨#[]⟩]), 11, 104) := by kernel_rfl
theorem infoZ24 : (Tryd.prog.info? 87).map (fun i => (i.zero, i.size, i.bytes)) = some (some (.agg #[.string ⟨#[]⟩, .slice none 0 0]), 2, 40) := by kernel_rfl
theorem opt_len24 {α : Type} (b : Bool) (x : α) : (P24.opt b x).length ≤ 1 := by unfold P24.opt; split <;> simp
theorem rep_succ {α : Type} (k : Nat) (a : α) : List.replicate k a ++ [a] = List.replicate (k + 1) a := by
  rw [List.replicate_succ']
theorem zl_snoc {ZL : List ZV} {z : ZV} {k : Nat} (h : ZL.length = k ∧ ∀ y ∈ ZL, y.eras = P24.lmtE) (hz : z.eras = P24.lmtE) : (ZL ++ [z]).length = k + 1 ∧ ∀ y ∈ ZL ++ [z], y.eras = P24.lmtE := by
  refine ⟨by rw [List.length_append, h.1]; rfl, fun y hy => ?_⟩
  rcases List.mem_append.1 hy with q | q
  · exact h.2 y q
  · rw [List.mem_singleton] at q
    rw [q]; exact hz
theorem cells_set {α : Type} {m : Nat} {f : α → List Value} {w : World} {A : Option Addr} {L : List α} {g : Nat} (h : CellsIn m f w A L) (hne : ∀ b o, A = some ⟨b, o, none⟩ → b ≠ g) (i : Nat) (u : Value) : CellsIn m f (w.setCell ⟨g, i, none⟩ u) A L := by
  intro k r hr
  obtain ⟨b, o, hA, hlt, hc⟩ := h k r hr
  refine ⟨b, o, hA, by simpa using hlt, fun j v hv => ?_⟩
  have hg := grown_set w g i u
  rw [hg.cell_far ⟨b, o + k * m + j, none⟩ hlt (fun q => by injection q with q; exact hne b o hA q)]
  exact hc j v hv
theorem grown_trans24 {a b c : World} {x : Option Nat} (h : a.grownBy b x) (h' : b.grownBy c x) : a.grownBy c x :=
  ⟨h'.os.trans h.os, h'.tape.trans h.tape, h'.output.trans h.output, Nat.le_trans h.size h'.size, fun k hk hx => (h'.block k (Nat.lt_of_lt_of_le hk h.size) hx).trans (h.block k hk hx)⟩
def lmtF : List ByteArray := [⟨#[76, 77, 84]⟩, ⟨#[69, 37, 115, 84]⟩]
set_option maxRecDepth 100000 in
set_option maxHeartbeats 16000000 in
theorem source24_any (a b c d : Bool) (n : Nat) (w : World) (hn : n ≤ 5) :
    Calls Tryd.prog 26 #[.agg #[.bool a, .bool b, .bool c, .bool d], .int .i64 (n : Int)] w fun e w' => (∃ s : SV, P24.PartOf s a b c d n ∧ e = .returned (.agg s.agg) ∧ SrcIn w' s) ∧ Below w.heap.size w w' := by
  have hni : (n : Int) ≤ 5 := by omega
  have cZ := Lib.hid (zone_own none 0 [] (((w.alloc (.cells #[.bool a, .bool b, .bool c, .bool d] 58)).alloc (.cells #[.slice none 0 0, .slice none 0 0, .slice none 0 0, .slice none 0 0] 62)).alloc (.cells #[.slice none 0 0, .slice none 0 0, .slice none 0 0, .slice none 0 0] 62)) (by decide) (CellsIn.nil _ _))
  have hp := ((Blk.new w 58 #[.bool a, .bool b, .bool c, .bool d]).alloc (.cells #[.slice none 0 0, .slice none 0 0, .slice none 0 0, .slice none 0 0] 62)).alloc (.cells #[.slice none 0 0, .slice none 0 0, .slice none 0 0, .slice none 0 0] 62)
  have hr := (Blk.newAt (w.alloc (.cells #[.bool a, .bool b, .bool c, .bool d] 58)) (w.heap.size + 1) (by simp) 62 #[.slice none 0 0, .slice none 0 0, .slice none 0 0, .slice none 0 0]).alloc (.cells #[.slice none 0 0, .slice none 0 0, .slice none 0 0, .slice none 0 0] 62)
  have hs := Blk.newAt ((w.alloc (.cells #[.bool a, .bool b, .bool c, .bool d] 58)).alloc (.cells #[.slice none 0 0, .slice none 0 0, .slice none 0 0, .slice none 0 0] 62)) (w.heap.size + 2) (by simp) 62 #[.slice none 0 0, .slice none 0 0, .slice none 0 0, .slice none 0 0]
  have hb := (((Below.refl w.heap.size w).alloc (Nat.le_refl _) (.cells #[.bool a, .bool b, .bool c, .bool d] 58)).alloc (by simp) (.cells #[.slice none 0 0, .slice none 0 0, .slice none 0 0, .slice none 0 0] 62)).alloc (by simp; omega) (.cells #[.slice none 0 0, .slice none 0 0, .slice none 0 0, .slice none 0 0] 62)
  have hsz : (((w.alloc (.cells #[.bool a, .bool b, .bool c, .bool d] 58)).alloc (.cells #[.slice none 0 0, .slice none 0 0, .slice none 0 0, .slice none 0 0] 62)).alloc (.cells #[.slice none 0 0, .slice none 0 0, .slice none 0 0, .slice none 0 0] 62)).heap.size = w.heap.size + 3 := by simp
  have H0 := Lib.hid (And.intro hp (And.intro hr (And.intro hs (And.intro hb hsz))))
  clear hp hr hs hb hsz
  go_enter Tryd.func26, Tryd.ntmps26
  go_wp2_with fail
  refine cZ.out.mono ?_
  rintro e W1 ⟨vz, rfl, hov, hc⟩
  obtain ⟨Az, cz, rfl⟩ := own_is hov
  obtain ⟨hp, hr, hs, hb, hsz⟩ := H0.out
  rw [hsz] at hov
  have hSt : St24 w W1.heap.size #[.bool a, .bool b, .bool c, .bool d] (W1.alloc (.cells #[.string ⟨#[90]⟩, .slice Az 0 cz] 87)) [] [] [] (.slice none 0 0) (.slice Az 0 cz) (.slice none 0 0) := by
    have hw1 : w.heap.size + 3 ≤ W1.heap.size := by have := hc.size; omega
    refine ⟨⟨rfl, .inl ⟨rfl, rfl⟩⟩, hov.alloc _, ⟨rfl, .inl ⟨rfl, rfl⟩⟩, fun z hz => (by cases hz), (hs.below hc hs.lt).alloc _, Blk.new W1 _ _, (hp.below hc hp.lt).alloc _, (hr.below hc hr.lt).alloc _, fun q => (by cases q), (by omega), (hb.trans (hc.mono hb.size)).alloc (by omega) _⟩
  clear hp hr hs hb hsz H0 hov hc cZ
  go_wp2_with fail
  generalize W1.alloc (.cells #[.string ⟨#[90]⟩, .slice Az 0 cz] 87) = V0 at *
  generalize W1.heap.size = GZ at *
  obtain ⟨iR, hRi, hR0, hR1, hR2⟩ := info_parts infoR24
  obtain ⟨iE, hEi, hE0, hE1, hE2⟩ := info_parts infoE
  obtain ⟨iZ, hZi, hZ0, hZ1, hZ2⟩ := info_parts infoZ24
  go_loopw [9] (fun s wr => ∃ k : Nat, k ≤ n ∧ s = .int .i64 (k : Int) ∧ ∃ (v1 v2 v3 : Value) (ZL : List ZV), Hid (St24 w GZ #[.bool a, .bool b, .bool c, .bool d] wr (List.replicate k P24.rp) (List.replicate k P24.eAB) ZL v1 v2 v3 ∧ ZL.length = k ∧ ∀ z ∈ ZL, z.eras = P24.lmtE)) (fun i _ => n - (intOf i).toNat)
  case atStart => exact ⟨0, Nat.zero_le _, rfl, _, _, _, [], Lib.hid ⟨hSt, rfl, fun z hz => by cases hz⟩⟩
  case round =>
    clear hSt
    obtain ⟨k, hk, rfl, v1, v2, v3, ZL, hH⟩ := hrel
    by_cases hlt : k < n
    · have hki : (k : Int) < (n : Int) := by omega
      have hS := Lib.hid hH.out.1
      have HZL := Lib.hid hH.out.2
      clear hH
      have hA1 := (hS.out).alloc (.cells #[.string ⟨#[82]⟩, .int .i64 0, .int .i64 0, .int .i64 0, .int .i64 0, .int .i64 0, .int .i64 0, .int .i64 0, .int .i64 0, .int .i64 3600, .string ⟨#[]⟩] 38)
      have HA1 := Lib.hid hA1
      have HO1 := Lib.hid hA1.o1
      have HN1 := Lib.hid (Blk.new wr 38 #[.string ⟨#[82]⟩, .int .i64 0, .int .i64 0, .int .i64 0, .int .i64 0, .int .i64 0, .int .i64 0, .int .i64 0, .int .i64 0, .int .i64 3600, .string ⟨#[]⟩])
      have HL1 : Hid (w.heap.size + 3 ≤ (wr.alloc (.cells #[.string ⟨#[82]⟩, .int .i64 0, .int .i64 0, .int .i64 0, .int .i64 0, .int .i64 0, .int .i64 0, .int .i64 0, .int .i64 0, .int .i64 3600, .string ⟨#[]⟩] 38)).heap.size) := Lib.hid (by have := hA1.bz.lt; have := hA1.gz; omega)
      have HC1 : Hid ((List.replicate k P24.rp).length ≤ 100) := Lib.hid (by
        try simp only [List.length_append, List.length_replicate]
        omega)
      have x0 := (hS.out.bs.cell 0).trans rfl
      clear hA1
      go_wp2_with (at_builtin; refine wpList_append_lies _ rfl _ _ 24 rfl (w.heap.size + 3) 38 iR (.agg #[.string ⟨#[]⟩, .int .i64 0, .int .i64 0, .int .i64 0, .int .i64 0, .int .i64 0, .int .i64 0, .int .i64 0, .int .i64 0, .int .i64 0, .string ⟨#[]⟩]) 11 104 Tryd.underlying24 hRi hR0 hR1 hR2 rfl (by decide) _ _ _ rfl HO1.out ⟨wr.heap.size, 0, none⟩ 1 1 [.string ⟨#[82]⟩, .int .i64 0, .int .i64 0, .int .i64 0, .int .i64 0, .int .i64 0, .int .i64 0, .int .i64 0, .int .i64 0, .int .i64 3600, .string ⟨#[]⟩] rfl rfl (blk_cells HN1.out) (by simp [Value.oneCell']) (by decide) (by have := HC1.out; simp only [maxLen]; omega) (by have := HC1.out; omega) HL1.out _ rfl ?_)
      intro ga1 ca1 wa1 ho1 hg1 hat1 hlt1
      have hbs1 := blk_pass HA1.out.bs hg1 (own_low HA1.out.o1 (Nat.lt_succ_self _))
      have y0 := (hbs1.cell 0).trans rfl
      have z0 := hbs1.frozen 0
      have hS2 := Lib.hid (St24.app1 (r := P24.rp) (v := .slice (some ⟨ga1, 0, none⟩) (k + 1) ca1) HA1.out hg1 (by simp [P24.opt]) ho1)
      clear x0 HA1 HO1 HN1 HL1 HC1 hbs1 ho1 hg1 hat1 hlt1
      go_upto_region 6 with fail
      clear y0 z0
      generalize (wa1.setCell ⟨w.heap.size + 2, 0, none⟩ (.slice (some ⟨ga1, 0, none⟩) (k + 1) ca1)) = Wb at *
      have hA2 := (hS2.out).alloc (.cells #[.int .i64 0, .int .i64 0, .int .i64 0, .string ⟨#[]⟩, .string ⟨#[65, 47, 66]⟩, .bool false, .int .i64 0, .int .i64 0, .int .i64 0, .int .i64 0, .int .i64 0, .int .i64 0, .int .i64 0] 33)
      have HA2 := Lib.hid hA2
      have HO2 := Lib.hid hA2.o2
      have HN2 := Lib.hid (Blk.new Wb 33 #[.int .i64 0, .int .i64 0, .int .i64 0, .string ⟨#[]⟩, .string ⟨#[65, 47, 66]⟩, .bool false, .int .i64 0, .int .i64 0, .int .i64 0, .int .i64 0, .int .i64 0, .int .i64 0, .int .i64 0])
      have HL2 : Hid (w.heap.size + 3 ≤ (Wb.alloc (.cells #[.int .i64 0, .int .i64 0, .int .i64 0, .string ⟨#[]⟩, .string ⟨#[65, 47, 66]⟩, .bool false, .int .i64 0, .int .i64 0, .int .i64 0, .int .i64 0, .int .i64 0, .int .i64 0, .int .i64 0] 33)).heap.size) := Lib.hid (by have := hA2.bz.lt; have := hA2.gz; omega)
      have HC2 : Hid ((List.replicate k P24.eAB).length ≤ 100) := Lib.hid (by
        try simp only [List.length_append, List.length_replicate]
        omega)
      have x0 := (hS2.out.bz.cell 1).trans rfl
      clear hA2
      go_wp2_with (at_builtin; refine wpList_append_lies _ rfl _ _ 85 rfl (w.heap.size + 3) 33 iE (.agg #[.int .i64 0, .int .i64 0, .int .i64 0, .string ⟨#[]⟩, .string ⟨#[]⟩, .bool false, .int .i64 0, .int .i64 0, .int .i64 0, .int .i64 0, .int .i64 0, .int .i64 0, .int .i64 0]) 13 120 Tryd.underlying85 hEi hE0 hE1 hE2 rfl (by decide) _ _ _ rfl HO2.out ⟨Wb.heap.size, 0, none⟩ 1 1 [.int .i64 0, .int .i64 0, .int .i64 0, .string ⟨#[]⟩, .string ⟨#[65, 47, 66]⟩, .bool false, .int .i64 0, .int .i64 0, .int .i64 0, .int .i64 0, .int .i64 0, .int .i64 0, .int .i64 0] rfl rfl (blk_cells HN2.out) (by simp [Value.oneCell']) (by decide) (by have := HC2.out; simp only [maxLen]; omega) (by have := HC2.out; omega) HL2.out _ rfl ?_)
      intro ga2 ca2 wa2 ho2 hg2 hat2 hlt2
      have hbs2 := blk_pass HA2.out.bz hg2 (own_blk HA2.out.o2 HA2.out.bz (by decide))
      have y0 := (hbs2.cell 1).trans rfl
      have z0 := hbs2.frozen 1
      have hS3 := Lib.hid (St24.app2 (r := P24.eAB) HA2.out hg2 (by simp [P24.opt]) ho2 (hat2.imp id fun q => q.trans (by simp)))
      clear x0 HA2 HO2 HN2 HL2 HC2 hbs2 ho2 hg2 hat2 hlt2
      clear hS hS2
      go_upto_region 7 with fail
      clear y0 z0
      generalize (wa2.setCell ⟨GZ, 1, none⟩ (.slice (some ⟨ga2, 0, none⟩) (k + 1) ca2)) = Wc at *
      generalize (Value.slice (some ⟨ga1, 0, none⟩) (k + 1) ca1) = v1' at *
      generalize (Value.slice (some ⟨ga2, 0, none⟩) (k + 1) ca2) = v2' at *
      · skip
        have hSd := ((hS3.out).alloc (.cells #[.string ⟨#[76, 77, 84]⟩, .string ⟨#[69, 37, 115, 84]⟩] 9)).drew
        have xa := (hS3.out.bs.cell 1).trans rfl
        have xb := (hSd.bs.cell 1).trans rfl
        have xc := (hS3.out.drew.bs.cell 1).trans rfl
        have hcl : CellsIn 1 (fun b : ByteArray => [Value.string b]) (Wc.alloc (.cells #[.string ⟨#[76, 77, 84]⟩, .string ⟨#[69, 37, 115, 84]⟩] 9)).drew (some ⟨Wc.heap.size, 0, none⟩) lmtF := (cells_new (m := 1) (f := fun b : ByteArray => [Value.string b]) (fun _ => rfl) Wc _ lmtF).below ((Below.refl _ _).drew)
        have cZ2 : Hid (Calls Tryd.prog 65 #[.slice (some ⟨Wc.heap.size, 0, none⟩) 2 2] (Wc.alloc (.cells #[.string ⟨#[76, 77, 84]⟩, .string ⟨#[69, 37, 115, 84]⟩] 9)).drew fun e w' => ∃ v, e = .returned (.agg #[.string ⟨#[90]⟩, v]) ∧ w'.ownsRow (Wc.alloc (.cells #[.string ⟨#[76, 77, 84]⟩, .string ⟨#[69, 37, 115, 84]⟩] 9)).drew.heap.size 33 13 v 2 (ecells P24.lmtE) ∧ Below (Wc.alloc (.cells #[.string ⟨#[76, 77, 84]⟩, .string ⟨#[69, 37, 115, 84]⟩] 9)).drew.heap.size (Wc.alloc (.cells #[.string ⟨#[76, 77, 84]⟩, .string ⟨#[69, 37, 115, 84]⟩] 9)).drew w') := Lib.hid (zone_own _ 2 lmtF _ (by decide) hcl)
        have HSd := Lib.hid hSd
        have hkz := HZL.out.1
        have hsz : (Wc.alloc (.cells #[.string ⟨#[76, 77, 84]⟩, .string ⟨#[69, 37, 115, 84]⟩] 9)).drew.heap.size = Wc.heap.size + 1 := by simp [World.drew]
        have HSZ := Lib.hid hsz
        clear hSd hcl hsz
        go_region_law (first | (refine step_append_lies _ (by rfl) _ _ _ (by rfl) (w.heap.size + 3) 87 iZ _ 2 40 Tryd.underlying59 hZi hZ0 hZ1 hZ2 rfl (by omega) _ k (zc24 ZL) (by rfl) HO5.out ⟨W4.heap.size, 0, none⟩ 1 1 [.string ⟨#[90]⟩, .slice (some ⟨gz, 0, none⟩) 2 cz4] (by rfl) (by rfl) (blk_cells HN5.out) (by simp [Value.oneCell']) (by omega) (by simp only [maxLen]; omega) (by omega) HL5.out (W4.heap.size + 1) (by simp) ?_; intro g5 c5 wa5 ho5 hg5 hat5 hlt5; have hb5 := blk_pass HS5.out.bs hg5 (own_low HS5.out.o3 (Nat.lt_succ_self _)); have y5 := (hb5.cell 1).trans rfl; have z5 := hb5.frozen 1; have HS6 := Lib.hid (St24.app3 (z := (⟨⟨#[90]⟩, some ⟨gz, 0, none⟩, cz4, P24.lmtE⟩ : ZV)) HS5.out hg5 (by rw [hkz]) ho5 (hat5.imp id fun q => q.trans (show W4.heap.size + 1 = (W4.alloc (.cells #[.string ⟨#[90]⟩, .slice (some ⟨gz, 0, none⟩) 2 cz4] 87)).heap.size by simp)) HE5.out); clear hb5 ho5 hg5 hat5 hlt5) | (go_simp; go_at_call 65; refine cZ2.out.mono ?_; rintro e W4 ⟨vz4, rfl, hov4, hc4⟩; obtain ⟨gz, cz4, rfl, hgz4, hgl4, hcp4, _⟩ := own_form hov4 (by decide); have hS4 := HSd.out.below hc4; have xd := (hS4.bs.cell 1).trans rfl; have hS5 := hS4.alloc (.cells #[.string ⟨#[90]⟩, .slice (some ⟨gz, 0, none⟩) 2 cz4] 87); have xe := (hS5.bs.cell 1).trans rfl; have HO5 : Hid ((W4.alloc (.cells #[.string ⟨#[90]⟩, .slice (some ⟨gz, 0, none⟩) 2 cz4] 87)).ownsRow (w.heap.size + 3) 87 2 v3 k (zc24 ZL)) := Lib.hid (by have q := hS5.o3; rw [hkz] at q; exact q); have HN5 := Lib.hid (Blk.new W4 87 #[.string ⟨#[90]⟩, .slice (some ⟨gz, 0, none⟩) 2 cz4]); have HL5 : Hid (w.heap.size + 3 ≤ (W4.alloc (.cells #[.string ⟨#[90]⟩, .slice (some ⟨gz, 0, none⟩) 2 cz4] 87)).heap.size) := Lib.hid (by have := hS5.bz.lt; have := hS5.gz; omega); have HE5 : Hid (ERow (W4.alloc (.cells #[.string ⟨#[90]⟩, .slice (some ⟨gz, 0, none⟩) 2 cz4] 87)) w.heap.size v2' (⟨⟨#[90]⟩, some ⟨gz, 0, none⟩, cz4, P24.lmtE⟩ : ZV)) := Lib.hid ⟨own_base (by have := HSZ.out; have := hS3.out.bz.lt; have := hS3.out.gz; omega) (hov4.alloc _), fun g hg e => by have h1 := (hov4.lt g hg).1; have h2 := (hS3.out.o2.lt g e).2; have := HSZ.out; omega⟩; have HS5 := Lib.hid hS5; clear hov4 hc4 hgz4 hgl4 hcp4 hS4 hS5))
        all_goals
          rw [rep_succ, rep_succ] at HS6
          have HF := Lib.hid (show St24 _ _ _ _ _ _ _ _ _ _ ∧ (ZL ++ [(⟨⟨#[90]⟩, some ⟨gz, 0, none⟩, cz4, P24.lmtE⟩ : ZV)]).length = k + 1 ∧ ∀ z ∈ ZL ++ [(⟨⟨#[90]⟩, some ⟨gz, 0, none⟩, cz4, P24.lmtE⟩ : ZV)], z.eras = P24.lmtE from ⟨HS6.out, zl_snoc HZL.out rfl⟩)
          clear HS6 HS5 HO5 HN5 HL5 HE5 HZL hkz HSZ HSd hS3
          go_wp2_with fail
          go_roundw
          case rel => exact ⟨k + 1, by omega, by go_num, _, _, _, _, HF⟩
          case measure => simp [intOf]; omega
    · obtain rfl : k = n := by omega
      clear hlt hk
      have hS := Lib.hid hH.out.1
      have HZL := Lib.hid hH.out.2
      clear hH
      have pb := (hS.out.bp.cell 0).trans rfl
      go_upto_if 32 with fail
      clear pb
      go_cut [4] (fun s4 wx => s4 = .pointer (some ⟨w.heap.size + 1, 0, none⟩) ∧ ∃ v1 v2 v3 : Value, Hid (St24 w GZ #[.bool a, .bool b, .bool c, .bool d] wx ((List.replicate k P24.rp) ++ P24.opt a P24.rn) (List.replicate k P24.eAB) ZL v1 v2 v3))
      case first =>
        cases a with
        | false =>
          go_wp2_with fail
          go_meet
          exact ⟨rfl, _, _, _, by simp only [P24.opt, Bool.false_eq_true, if_false, List.append_nil]; exact hS⟩
        | true =>
          have hA3 := (hS.out).alloc (.cells #[.string ⟨#[82]⟩, .int .i64 0, .int .i64 0, .int .i64 0, .int .i64 0, .int .i64 0, .int .i64 0, .int .i64 0, .int .i64 0, .int .i64 (-3600), .string ⟨#[]⟩] 38)
          have HA3 := Lib.hid hA3
          have HO3 := Lib.hid hA3.o1
          have HN3 := Lib.hid (Blk.new wr 38 #[.string ⟨#[82]⟩, .int .i64 0, .int .i64 0, .int .i64 0, .int .i64 0, .int .i64 0, .int .i64 0, .int .i64 0, .int .i64 0, .int .i64 (-3600), .string ⟨#[]⟩])
          have HL3 : Hid (w.heap.size + 3 ≤ (wr.alloc (.cells #[.string ⟨#[82]⟩, .int .i64 0, .int .i64 0, .int .i64 0, .int .i64 0, .int .i64 0, .int .i64 0, .int .i64 0, .int .i64 0, .int .i64 (-3600), .string ⟨#[]⟩] 38)).heap.size) := Lib.hid (by have := hA3.bz.lt; have := hA3.gz; omega)
          have HC3 : Hid ((List.replicate k P24.rp).length ≤ 100) := Lib.hid (by
            try simp only [List.length_append, List.length_replicate]
            omega)
          have x0 := (hS.out.bs.cell 0).trans rfl
          clear hA3
          go_wp2_with (at_builtin; refine wpList_append_lies _ rfl _ _ 24 rfl (w.heap.size + 3) 38 iR (.agg #[.string ⟨#[]⟩, .int .i64 0, .int .i64 0, .int .i64 0, .int .i64 0, .int .i64 0, .int .i64 0, .int .i64 0, .int .i64 0, .int .i64 0, .string ⟨#[]⟩]) 11 104 Tryd.underlying24 hRi hR0 hR1 hR2 rfl (by decide) _ _ _ rfl HO3.out ⟨wr.heap.size, 0, none⟩ 1 1 [.string ⟨#[82]⟩, .int .i64 0, .int .i64 0, .int .i64 0, .int .i64 0, .int .i64 0, .int .i64 0, .int .i64 0, .int .i64 0, .int .i64 (-3600), .string ⟨#[]⟩] rfl rfl (blk_cells HN3.out) (by simp [Value.oneCell']) (by decide) (by have := HC3.out; simp only [maxLen]; omega) (by have := HC3.out; omega) HL3.out _ rfl ?_)
          intro ga3 ca3 wa3 ho3 hg3 hat3 hlt3
          have hbs3 := blk_pass HA3.out.bs hg3 (own_low HA3.out.o1 (Nat.lt_succ_self _))
          have y0 := (hbs3.cell 0).trans rfl
          have z0 := hbs3.frozen 0
          have hS9 := Lib.hid (St24.app1 (r := P24.rn) (v := .slice (some ⟨ga3, 0, none⟩) (k + 1) ca3) HA3.out hg3 (by simp [P24.opt]) ho3)
          clear x0 HA3 HO3 HN3 HL3 HC3 hbs3 ho3 hg3 hat3 hlt3
          go_wp2_with fail
          go_meet
          exact ⟨rfl, _, _, _, hS9⟩
      case rest =>
        obtain ⟨rfl, v1, v2, v3, hS⟩ := hcut
        have pb := (hS.out.bp.cell 1).trans rfl
        go_upto_if 40 with fail
        clear pb
        go_cut [4] (fun s4 wx => s4 = .pointer (some ⟨w.heap.size + 1, 0, none⟩) ∧ ∃ v1 v2 v3 : Value, Hid (St24 w GZ #[.bool a, .bool b, .bool c, .bool d] wx ((List.replicate k P24.rp) ++ P24.opt a P24.rn) ((List.replicate k P24.eAB) ++ P24.opt b P24.eNum) ZL v1 v2 v3))
        case first =>
          cases b with
          | false =>
            go_wp2_with fail
            go_meet
            exact ⟨rfl, _, _, _, by simp only [P24.opt, Bool.false_eq_true, if_false, List.append_nil]; exact hS⟩
          | true =>
            have hA4 := (hS.out).alloc (.cells #[.int .i64 0, .int .i64 0, .int .i64 0, .string ⟨#[]⟩, .string ⟨#[43, 48, 53, 51, 48]⟩, .bool false, .int .i64 0, .int .i64 0, .int .i64 0, .int .i64 0, .int .i64 0, .int .i64 0, .int .i64 0] 33)
            have HA4 := Lib.hid hA4
            have HO4 := Lib.hid hA4.o2
            have HN4 := Lib.hid (Blk.new wc 33 #[.int .i64 0, .int .i64 0, .int .i64 0, .string ⟨#[]⟩, .string ⟨#[43, 48, 53, 51, 48]⟩, .bool false, .int .i64 0, .int .i64 0, .int .i64 0, .int .i64 0, .int .i64 0, .int .i64 0, .int .i64 0])
            have HL4 : Hid (w.heap.size + 3 ≤ (wc.alloc (.cells #[.int .i64 0, .int .i64 0, .int .i64 0, .string ⟨#[]⟩, .string ⟨#[43, 48, 53, 51, 48]⟩, .bool false, .int .i64 0, .int .i64 0, .int .i64 0, .int .i64 0, .int .i64 0, .int .i64 0, .int .i64 0] 33)).heap.size) := Lib.hid (by have := hA4.bz.lt; have := hA4.gz; omega)
            have HC4 : Hid ((List.replicate k P24.eAB).length ≤ 100) := Lib.hid (by
              try simp only [List.length_append, List.length_replicate]
              omega)
            have x0 := (hS.out.bz.cell 1).trans rfl
            clear hA4
            go_wp2_with (at_builtin; refine wpList_append_lies _ rfl _ _ 85 rfl (w.heap.size + 3) 33 iE (.agg #[.int .i64 0, .int .i64 0, .int .i64 0, .string ⟨#[]⟩, .string ⟨#[]⟩, .bool false, .int .i64 0, .int .i64 0, .int .i64 0, .int .i64 0, .int .i64 0, .int .i64 0, .int .i64 0]) 13 120 Tryd.underlying85 hEi hE0 hE1 hE2 rfl (by decide) _ _ _ rfl HO4.out ⟨wc.heap.size, 0, none⟩ 1 1 [.int .i64 0, .int .i64 0, .int .i64 0, .string ⟨#[]⟩, .string ⟨#[43, 48, 53, 51, 48]⟩, .bool false, .int .i64 0, .int .i64 0, .int .i64 0, .int .i64 0, .int .i64 0, .int .i64 0, .int .i64 0] rfl rfl (blk_cells HN4.out) (by simp [Value.oneCell']) (by decide) (by have := HC4.out; simp only [maxLen]; omega) (by have := HC4.out; omega) HL4.out _ rfl ?_)
            intro ga4 ca4 wa4 ho4 hg4 hat4 hlt4
            have hbs4 := blk_pass HA4.out.bz hg4 (own_blk HA4.out.o2 HA4.out.bz (by decide))
            have y0 := (hbs4.cell 1).trans rfl
            have z0 := hbs4.frozen 1
            have hS9 := Lib.hid (St24.app2 (r := P24.eNum) HA4.out hg4 (by simp [P24.opt]) ho4 (hat4.imp id fun q => q.trans (by simp)))
            clear x0 HA4 HO4 HN4 HL4 HC4 hbs4 ho4 hg4 hat4 hlt4
            go_wp2_with fail
            go_meet
            exact ⟨rfl, _, _, _, hS9⟩
        case rest =>
          obtain ⟨rfl, v1, v2, v3, hS⟩ := hcut
          have pb := (hS.out.bp.cell 2).trans rfl
          go_upto_if 48 with fail
          clear pb
          go_cut [4] (fun s4 wx => s4 = .pointer (some ⟨w.heap.size + 1, 0, none⟩) ∧ ∃ v1 v2 v3 : Value, Hid (St24 w GZ #[.bool a, .bool b, .bool c, .bool d] wx ((List.replicate k P24.rp) ++ P24.opt a P24.rn) ((List.replicate k P24.eAB) ++ P24.opt b P24.eNum ++ P24.opt c P24.eMade) ZL v1 v2 v3))
          case first =>
            cases c with
            | false =>
              go_wp2_with fail
              go_meet
              exact ⟨rfl, _, _, _, by simp only [P24.opt, Bool.false_eq_true, if_false, List.append_nil]; exact hS⟩
            | true =>
              have hA5 := (hS.out).alloc (.cells #[.int .i64 0, .int .i64 0, .int .i64 0, .string ⟨#[]⟩, .string ⟨#[37, 122]⟩, .bool false, .int .i64 0, .int .i64 0, .int .i64 0, .int .i64 0, .int .i64 0, .int .i64 0, .int .i64 0] 33)
              have HA5 := Lib.hid hA5
              have HO5 := Lib.hid hA5.o2
              have HN5 := Lib.hid (Blk.new wc 33 #[.int .i64 0, .int .i64 0, .int .i64 0, .string ⟨#[]⟩, .string ⟨#[37, 122]⟩, .bool false, .int .i64 0, .int .i64 0, .int .i64 0, .int .i64 0, .int .i64 0, .int .i64 0, .int .i64 0])
              have HL5 : Hid (w.heap.size + 3 ≤ (wc.alloc (.cells #[.int .i64 0, .int .i64 0, .int .i64 0, .string ⟨#[]⟩, .string ⟨#[37, 122]⟩, .bool false, .int .i64 0, .int .i64 0, .int .i64 0, .int .i64 0, .int .i64 0, .int .i64 0, .int .i64 0] 33)).heap.size) := Lib.hid (by have := hA5.bz.lt; have := hA5.gz; omega)
              have HC5 : Hid (((List.replicate k P24.eAB) ++ P24.opt b P24.eNum).length ≤ 100) := Lib.hid (by
                have h2 := opt_len24 b P24.eNum
                try simp only [List.length_append, List.length_replicate]
                omega)
              have x0 := (hS.out.bz.cell 1).trans rfl
              clear hA5
              go_wp2_with (at_builtin; refine wpList_append_lies _ rfl _ _ 85 rfl (w.heap.size + 3) 33 iE (.agg #[.int .i64 0, .int .i64 0, .int .i64 0, .string ⟨#[]⟩, .string ⟨#[]⟩, .bool false, .int .i64 0, .int .i64 0, .int .i64 0, .int .i64 0, .int .i64 0, .int .i64 0, .int .i64 0]) 13 120 Tryd.underlying85 hEi hE0 hE1 hE2 rfl (by decide) _ _ _ rfl HO5.out ⟨wc.heap.size, 0, none⟩ 1 1 [.int .i64 0, .int .i64 0, .int .i64 0, .string ⟨#[]⟩, .string ⟨#[37, 122]⟩, .bool false, .int .i64 0, .int .i64 0, .int .i64 0, .int .i64 0, .int .i64 0, .int .i64 0, .int .i64 0] rfl rfl (blk_cells HN5.out) (by simp [Value.oneCell']) (by decide) (by have := HC5.out; simp only [maxLen]; omega) (by have := HC5.out; omega) HL5.out _ rfl ?_)
              intro ga5 ca5 wa5 ho5 hg5 hat5 hlt5
              have hbs5 := blk_pass HA5.out.bz hg5 (own_blk HA5.out.o2 HA5.out.bz (by decide))
              have y0 := (hbs5.cell 1).trans rfl
              have z0 := hbs5.frozen 1
              have hS9 := Lib.hid (St24.app2 (r := P24.eMade) HA5.out hg5 (by simp [P24.opt]) ho5 (hat5.imp id fun q => q.trans (by simp)))
              clear x0 HA5 HO5 HN5 HL5 HC5 hbs5 ho5 hg5 hat5 hlt5
              go_wp2_with fail
              go_meet
              exact ⟨rfl, _, _, _, hS9⟩
          case rest =>
            obtain ⟨rfl, v1, v2, v3, hS⟩ := hcut
            obtain ⟨A2, c2, hv2⟩ := own_is hS.out.o2
            obtain ⟨N2, hN2⟩ : ∃ N2, ((List.replicate k P24.eAB) ++ P24.opt b P24.eNum ++ P24.opt c P24.eMade).length = N2 := ⟨_, rfl⟩
            rw [hN2] at hv2
            subst hv2
            clear hN2
            have hA := hS.out.alloc (.cells #[.string ⟨#[90]⟩, .slice A2 N2 c2] 87)
            have hkz := HZL.out.1
            have HO : Hid ((wc.alloc (.cells #[.string ⟨#[90]⟩, .slice A2 N2 c2] 87)).ownsRow (w.heap.size + 3) 87 2 v3 k (zc24 ZL)) := Lib.hid (by have q := hA.o3; rw [hkz] at q; exact q)
            have HN := Lib.hid (Blk.new wc 87 #[.string ⟨#[90]⟩, .slice A2 N2 c2])
            have HL : Hid (w.heap.size + 3 ≤ (wc.alloc (.cells #[.string ⟨#[90]⟩, .slice A2 N2 c2] 87)).heap.size) := Lib.hid (by have := hA.bz.lt; have := hA.gz; omega)
            have x1 := (hS.out.bs.cell 1).trans rfl
            have y0 := (hS.out.bz.cell 0).trans rfl
            have y1 := (hS.out.bz.cell 1).trans rfl
            have HA := Lib.hid hA
            clear hA
            go_wp2_with (at_builtin; refine wpList_append_lies _ rfl _ _ 59 rfl (w.heap.size + 3) 87 iZ (.agg #[.string ⟨#[]⟩, .slice none 0 0]) 2 40 Tryd.underlying59 hZi hZ0 hZ1 hZ2 rfl (by decide) _ _ _ rfl HO.out ⟨wc.heap.size, 0, none⟩ 1 1 [.string ⟨#[90]⟩, .slice A2 N2 c2] rfl rfl (blk_cells HN.out) (by simp [Value.oneCell']) (by decide) (by simp only [maxLen]; omega) (by omega) HL.out _ rfl ?_)
            intro gq cq wa ho hg hat hlt
            have hbs := blk_pass HA.out.bs hg (own_low HA.out.o3 (Nat.lt_succ_self _))
            have z1 := (hbs.cell 1).trans rfl
            have f1 := hbs.frozen 1
            have hF := Lib.hid (St24.fin HA.out hg (by rw [hkz]) ho)
            clear x1 y0 y1 HA HO HN HL hbs ho hg hat hlt hS
            go_upto_region 16 with fail
            clear z1 f1
            generalize wa.setCell ⟨w.heap.size + 2, 1, none⟩ (.slice (some ⟨gq, 0, none⟩) (k + 1) cq) = Wd at *
            have p3 := (hF.out.bp.cell 3).trans rfl
            go_upto_if 62 with fail
            clear p3
            go_cut [4] (fun s4 wx => s4 = .pointer (some ⟨w.heap.size + 1, 0, none⟩) ∧ ∃ (A4 : Option Addr) (c4 : Nat), Hid (Fin24 w #[.bool a, .bool b, .bool c, .bool d] wx ((List.replicate k P24.rp) ++ P24.opt a P24.rn) ((List.replicate k P24.eAB) ++ P24.opt b P24.eNum ++ P24.opt c P24.eMade) ZL v1 (.slice A2 N2 c2) (.slice (some ⟨gq, 0, none⟩) (k + 1) cq) (.slice A4 (P24.opt d (⟨#[82]⟩ : ByteArray)).length c4) ∧ CellsIn 1 (fun b : ByteArray => [Value.string b]) wx A4 (P24.opt d ⟨#[82]⟩) ∧ ∀ b o, A4 = some ⟨b, o, none⟩ → w.heap.size + 2 < b))
            case first =>
              cases d with
              | false =>
                go_wp2_with fail
                go_meet
                exact ⟨rfl, none, 0, Lib.hid ⟨hF.out, CellsIn.nil _ _, fun b o q => by cases q⟩⟩
              | true =>
                have hFa := hF.out.alloc (.cells #[.string ⟨#[82]⟩] 9)
                have u3 := (hFa.bs.cell 3).trans rfl
                have f3 := hFa.bs.frozen 3
                have hlw : w.heap.size + 2 < Wd.heap.size := hF.out.bs.lt
                have hcl0 : CellsIn 1 (fun b : ByteArray => [Value.string b]) (Wd.alloc (.cells #[.string ⟨#[82]⟩] 9)) (some ⟨Wd.heap.size, 0, none⟩) [⟨#[82]⟩] := cells_new (m := 1) (f := fun b : ByteArray => [Value.string b]) (fun _ => rfl) Wd _ [⟨#[82]⟩]
                have hcl : CellsIn 1 (fun b : ByteArray => [Value.string b]) ((Wd.alloc (.cells #[.string ⟨#[82]⟩] 9)).setCell ⟨w.heap.size + 2, 3, none⟩ (.slice (some ⟨Wd.heap.size, 0, none⟩) 1 1)) (some ⟨Wd.heap.size, 0, none⟩) [⟨#[82]⟩] := cells_set hcl0 (fun b o q => by injection q with q; injection q with q _ _; show b ≠ w.heap.size + 2; omega) 3 _
                have HG := Lib.hid (And.intro (hFa.shift (.slice (some ⟨Wd.heap.size, 0, none⟩) 1 1)) hcl)
                have HLW := Lib.hid hlw
                clear hFa hcl0 hcl hlw
                go_wp2_with fail
                go_meet
                exact ⟨rfl, some ⟨Wd.heap.size, 0, none⟩, 1, Lib.hid ⟨HG.out.1, HG.out.2, fun b o q => by injection q with q; injection q with q _ _; have := HLW.out; omega⟩⟩
            case rest =>
              obtain ⟨rfl, A4, c4, hG⟩ := hcut
              clear hF
              obtain ⟨w1, w2, w3, w4, hbr⟩ := hG.out.1.br
              have m0 := (hG.out.1.bs.cell 0).trans rfl
              have r0 := (hbr.cell 0).trans rfl
              have fr0 := hbr.frozen 0
              have m1 := (hG.out.1.bs.cell 1).trans rfl
              have r1 := (hbr.cell 1).trans rfl
              have fr1 := hbr.frozen 1
              have m2 := (hG.out.1.bs.cell 2).trans rfl
              have r2 := (hbr.cell 2).trans rfl
              have fr2 := hbr.frozen 2
              have m3 := (hG.out.1.bs.cell 3).trans rfl
              have r3 := (hbr.cell 3).trans rfl
              have fr3 := hbr.frozen 3
              obtain ⟨A1, c1, hv1⟩ := own_is hG.out.1.o1
              obtain ⟨N1, hN1⟩ : ∃ N1, ((List.replicate k P24.rp) ++ P24.opt a P24.rn).length = N1 := ⟨_, rfl⟩
              rw [hN1] at hv1
              subst hv1
              obtain ⟨N4, hN4⟩ : ∃ N4, (P24.opt d (⟨#[82]⟩ : ByteArray)).length = N4 := ⟨_, rfl⟩
              rw [hN4] at hG m3
              have hbf : Blk ((((wc.setCell ⟨w.heap.size + 1, 0, none⟩ (.slice A1 N1 c1)).setCell ⟨w.heap.size + 1, 1, none⟩ (.slice (some ⟨gq, 0, none⟩) (k + 1) cq)).setCell ⟨w.heap.size + 1, 2, none⟩ (.slice none 0 0)).setCell ⟨w.heap.size + 1, 3, none⟩ (.slice A4 N4 c4)) (w.heap.size + 1) 62 #[.slice A1 N1 c1, .slice (some ⟨gq, 0, none⟩) (k + 1) cq, .slice none 0 0, .slice A4 N4 c4] := (((hbr.set_ 0 _).set_ 1 _).set_ 2 _).set_ 3 _
              have hgr : wc.grownBy ((((wc.setCell ⟨w.heap.size + 1, 0, none⟩ (.slice A1 N1 c1)).setCell ⟨w.heap.size + 1, 1, none⟩ (.slice (some ⟨gq, 0, none⟩) (k + 1) cq)).setCell ⟨w.heap.size + 1, 2, none⟩ (.slice none 0 0)).setCell ⟨w.heap.size + 1, 3, none⟩ (.slice A4 N4 c4)) (some (w.heap.size + 1)) := grown_trans24 (grown_trans24 (grown_trans24 (grown_set _ _ _ _) (grown_set _ _ _ _)) (grown_set _ _ _ _)) (grown_set _ _ _ _)
              have hbl : ∀ B (b : World), B ≤ w.heap.size + 1 → Below B b wc → Below B b ((((wc.setCell ⟨w.heap.size + 1, 0, none⟩ (.slice A1 N1 c1)).setCell ⟨w.heap.size + 1, 1, none⟩ (.slice (some ⟨gq, 0, none⟩) (k + 1) cq)).setCell ⟨w.heap.size + 1, 2, none⟩ (.slice none 0 0)).setCell ⟨w.heap.size + 1, 3, none⟩ (.slice A4 N4 c4)) := fun B b hB h => (((h.setCell (p := ⟨w.heap.size + 1, 0, none⟩) hB _).setCell (p := ⟨w.heap.size + 1, 1, none⟩) hB _).setCell (p := ⟨w.heap.size + 1, 2, none⟩) hB _).setCell (p := ⟨w.heap.size + 1, 3, none⟩) hB _
              have hcs : CellsIn 1 (fun b : ByteArray => [Value.string b]) ((((wc.setCell ⟨w.heap.size + 1, 0, none⟩ (.slice A1 N1 c1)).setCell ⟨w.heap.size + 1, 1, none⟩ (.slice (some ⟨gq, 0, none⟩) (k + 1) cq)).setCell ⟨w.heap.size + 1, 2, none⟩ (.slice none 0 0)).setCell ⟨w.heap.size + 1, 3, none⟩ (.slice A4 N4 c4)) A4 (P24.opt d ⟨#[82]⟩) := cells_set (cells_set (cells_set (cells_set hG.out.2.1 (fun b o q => by have := hG.out.2.2 b o q; show b ≠ w.heap.size + 1; omega) _ _) (fun b o q => by have := hG.out.2.2 b o q; show b ≠ w.heap.size + 1; omega) _ _) (fun b o q => by have := hG.out.2.2 b o q; show b ≠ w.heap.size + 1; omega) _ _) (fun b o q => by have := hG.out.2.2 b o q; show b ≠ w.heap.size + 1; omega) _ _
              have HF := Lib.hid hbf
              have HD := Lib.hid (Fin24.done hG.out.1 hbl hgr rfl rfl HZL.out (by rw [hN4]) hcs)
              clear hbf hgr hbl hcs hG HZL hbr hN1 hN4
              go_wp2_with fail
              have t0 := (HF.out.cell 0).trans rfl
              have t1 := (HF.out.cell 1).trans rfl
              have t2 := (HF.out.cell 2).trans rfl
              have t3 := (HF.out.cell 3).trans rfl
              exact bodyPost_ret (v := .agg #[.slice A1 N1 c1, .slice (some ⟨gq, 0, none⟩) (k + 1) cq, .slice none 0 0, .slice A4 N4 c4]) (by simp [results, Tryd.results26, go_sem, t0, t1, t2, t3]) rfl ⟨by obtain ⟨s, q1, q2, q3⟩ := HD.out.1; exact ⟨s, q1, congrArg Ending.returned q2, q3⟩, HD.out.2⟩
end Go.Proofs.YtmhciidliicheaaDoor
