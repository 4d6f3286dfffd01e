/- The walk of the law VariantParts (chapter 24). -/
import Derived.Test.YtmhciidliicheaaDoorSrc24
import Derived.LoopN
namespace Go.Proofs.YtmhciidliicheaaDoor
open Go.RowKit Go.Lib
set_option linter.unusedVariables false

/-- where the second FORMAT lies -/
def at24 (b c : Bool) (n : Int) : Int := if b = true ∧ c = true then n + 1 else n
set_option maxRecDepth 100000 in
set_option maxHeartbeats 16000000 in
theorem walkVariantParts (a b c d : Bool) (many : Int) (w : World) (hm : 0 ≤ many ∧ many ≤ 255) (hv : Vars24 w) :
    Calls Tryd.prog 7 #[.bool a, .bool b, .bool c, .bool d, .int .u8 many] w fun e w' => e = .returned (.bool true) ∧ Below w.heap.size w w' := by
  have HV := Lib.hid hv
  clear hv
  have hM : many.tmod 6 = many % 6 := Int.tmod_eq_emod_of_nonneg hm.1
  obtain ⟨n, hn⟩ : ∃ n : Nat, many % 6 = (n : Int) := ⟨(many % 6).toNat, by omega⟩
  have hn5 : n ≤ 5 := by omega
  rw [hn] at hM
  clear hn
  obtain ⟨m0, m1⟩ := hm
  have hni : (n : Int) ≤ 5 := by omega
  have hb0 := (Below.refl w.heap.size w).alloc (Nat.le_refl _) (.cells #[.bool a, .bool b, .bool c, .bool d] 58)
  have cS := Lib.hid (source24_any a b c d n (w.alloc (.cells #[.bool a, .bool b, .bool c, .bool d] 58)) hn5)
  clear hn5
  go_enter Tryd.func7, Tryd.ntmps7
  go_wp2_with fail
  refine cS.out.mono ?_
  rintro e W1 ⟨⟨s, hP, rfl, hSI⟩, hc⟩
  have hb1 := hb0.trans (hc.mono hb0.size)
  clear hb0 hc cS
  have hsm := P24.part_small hP (by omega)
  have cC : Hid (∀ k : Int, ∀ W, Below W1.heap.size W1 W → Calls Tryd.prog 27 #[.agg s.agg, .int .i64 k] W fun e w' => e = .returned (.tuple #[.agg #[.int .i64 (P24.check s k).1.1, .int .i64 (P24.check s k).1.2.1, .int .i64 (P24.check s k).1.2.2], .int .i64 (P24.check s k).2]) ∧ Below W.heap.size W w') := Lib.hid fun k W h => vcheck_any s k W (hSI.below h) hsm (HV.out.below (hb1.trans (h.mono hb1.size)))
  have hp1 := P24.part_1 hP
  have hp2 := P24.part_2 hP
  have hp3 := P24.part_3 hP
  have hagg : s.agg = #[.slice s.rA s.rules.length s.rc, .slice s.zA s.zones.length s.zc, .slice s.kA s.links.length s.kc, .slice s.hA s.shifts.length s.hc] := rfl
  rw [hagg] at cC ⊢
  have HP := Lib.hid (And.intro hp1 (And.intro hp2 hp3))
  clear hagg hP hSI hsm hp1 hp2 hp3
  generalize s.rules.length = NR at cC ⊢
  generalize s.zones.length = NZ at cC ⊢
  generalize s.links.length = NK at cC ⊢
  generalize s.shifts.length = NH at cC ⊢
  obtain ⟨AT, hAT⟩ : ∃ AT, at24 b c (n : Int) = AT := ⟨_, rfl⟩
  have hATb : 0 ≤ AT ∧ AT ≤ 6 := by rw [← hAT]; unfold at24; split <;> omega
  have hX := Blk.new W1 62 #[.slice s.rA NR s.rc, .slice s.zA NZ s.zc, .slice s.kA NK s.kc, .slice s.hA NH s.hc]
  have hbX := (Below.refl W1.heap.size W1).alloc (Nat.le_refl _) (.cells #[.slice s.rA NR s.rc, .slice s.zA NZ s.zc, .slice s.kA NK s.kc, .slice s.hA NH s.hc] 62)
  have HX := Lib.hid (And.intro hX hbX)
  clear hX hbX
  have HB1 := Lib.hid hb1
  clear hb1
  go_upto_region 5 with fail
  obtain ⟨hX, hbX⟩ := HX.out
  clear HX
  generalize W1.alloc (.cells #[.slice s.rA NR s.rc, .slice s.zA NZ s.zc, .slice s.kA NK s.kc, .slice s.hA NH s.hc] 62) = V0 at *
  generalize hGX : W1.heap.size = GX at hX ⊢
  go_cut [42] (fun s42 wx => s42 = .bool (b && c) ∧ wx = V0)
  case first =>
    clear HV HP cC hX hbX HB1 hATb hAT
    cases b <;> cases c
    all_goals (go_wp2_with fail; go_meet; exact ⟨rfl, rfl⟩)
  case rest =>
    obtain ⟨rfl, rfl⟩ := hcut
    go_upto_if 42 with fail
    go_cut [14] (fun s14 wx => s14 = .int .i64 AT ∧ wx = wc)
    case first =>
      unfold at24 at hAT
      clear HV HP cC hX hbX HB1 hATb
      cases b <;> cases c
      all_goals (simp at hAT; subst hAT; go_wp2_with fail; go_meet; exact ⟨rfl, rfl⟩)
    case rest =>
      obtain ⟨rfl, rfl⟩ := hcut
      have hX0 := hX
      have hrule0 := Blk.newAt wc (wc.heap.size) (by simp) 65 #[.int .i64 1, .int .i64 (n : Int), .int .i64 0]
      have hrule := (((hrule0.alloc (.cells #[.int .i64 2, .int .i64 (n : Int), .int .i64 (n : Int)] 65)).alloc (.cells #[.int .i64 2, .int .i64 (n : Int), .int .i64 AT] 65)).alloc (.cells #[.int .i64 4, .int .i64 0, .int .i64 0] 65))
      have hfirst0 := Blk.newAt (wc.alloc (.cells #[.int .i64 1, .int .i64 (n : Int), .int .i64 0] 65)) (wc.heap.size + 1) (by simp) 65 #[.int .i64 2, .int .i64 (n : Int), .int .i64 (n : Int)]
      have hfirst := ((hfirst0.alloc (.cells #[.int .i64 2, .int .i64 (n : Int), .int .i64 AT] 65)).alloc (.cells #[.int .i64 4, .int .i64 0, .int .i64 0] 65))
      have hsecond0 := Blk.newAt ((wc.alloc (.cells #[.int .i64 1, .int .i64 (n : Int), .int .i64 0] 65)).alloc (.cells #[.int .i64 2, .int .i64 (n : Int), .int .i64 (n : Int)] 65)) (wc.heap.size + 1 + 1) (by simp) 65 #[.int .i64 2, .int .i64 (n : Int), .int .i64 AT]
      have hsecond := (hsecond0.alloc (.cells #[.int .i64 4, .int .i64 0, .int .i64 0] 65))
      have hlast0 := Blk.newAt (((wc.alloc (.cells #[.int .i64 1, .int .i64 (n : Int), .int .i64 0] 65)).alloc (.cells #[.int .i64 2, .int .i64 (n : Int), .int .i64 (n : Int)] 65)).alloc (.cells #[.int .i64 2, .int .i64 (n : Int), .int .i64 AT] 65)) (wc.heap.size + 1 + 1 + 1) (by simp) 65 #[.int .i64 4, .int .i64 0, .int .i64 0]
      have hlast := hlast0
      have hXx := ((((hX0.alloc (.cells #[.int .i64 1, .int .i64 (n : Int), .int .i64 0] 65)).alloc (.cells #[.int .i64 2, .int .i64 (n : Int), .int .i64 (n : Int)] 65)).alloc (.cells #[.int .i64 2, .int .i64 (n : Int), .int .i64 AT] 65)).alloc (.cells #[.int .i64 4, .int .i64 0, .int .i64 0] 65))
      have hbx0 := hbX.alloc hbX.size (.cells #[.int .i64 1, .int .i64 (n : Int), .int .i64 0] 65)
      have hbx1 := hbx0.alloc hbx0.size (.cells #[.int .i64 2, .int .i64 (n : Int), .int .i64 (n : Int)] 65)
      have hbx2 := hbx1.alloc hbx1.size (.cells #[.int .i64 2, .int .i64 (n : Int), .int .i64 AT] 65)
      have hbx3 := hbx2.alloc hbx2.size (.cells #[.int .i64 4, .int .i64 0, .int .i64 0] 65)
      have HH := Lib.hid (And.intro hXx (And.intro hrule (And.intro hfirst (And.intro hsecond (And.intro hlast hbx3)))))
      clear hX hX0 hXx hbX hbx0 hbx1 hbx2 hbx3 hrule hfirst hsecond hlast hrule0 hfirst0 hsecond0 hlast0
      go_upto_region 10 with fail
      obtain ⟨hX, hrule, hfirst, hsecond, hlast, hb⟩ := HH.out
      clear HH
      generalize ((((wc.alloc (.cells #[.int .i64 1, .int .i64 (n : Int), .int .i64 0] 65)).alloc (.cells #[.int .i64 2, .int .i64 (n : Int), .int .i64 (n : Int)] 65)).alloc (.cells #[.int .i64 2, .int .i64 (n : Int), .int .i64 AT] 65)).alloc (.cells #[.int .i64 4, .int .i64 0, .int .i64 0] 65)) = V5 at *
      generalize wc.heap.size + 1 + 1 + 1 = Glast at *
      generalize wc.heap.size + 1 + 1 = Gsecond at *
      generalize wc.heap.size + 1 = Gfirst at *
      generalize wc.heap.size = Grule at *
      have kAfirst0 := (hfirst.cell 0).trans rfl
      have kAfirst1 := (hfirst.cell 1).trans rfl
      have kAfirst2 := (hfirst.cell 2).trans rfl
      have kAlast0 := (hlast.cell 0).trans rfl
      have kAlast1 := (hlast.cell 1).trans rfl
      have kAlast2 := (hlast.cell 2).trans rfl
      have kBsecond0 := ((hsecond.alloc (.cells #[.bool b, .int .i64 2, .int .i64 (n : Int), .int .i64 (n : Int), .bool d, .int .i64 4, .int .i64 0, .int .i64 0] 66)).cell 0).trans rfl
      have kBsecond1 := ((hsecond.alloc (.cells #[.bool b, .int .i64 2, .int .i64 (n : Int), .int .i64 (n : Int), .bool d, .int .i64 4, .int .i64 0, .int .i64 0] 66)).cell 1).trans rfl
      have kBsecond2 := ((hsecond.alloc (.cells #[.bool b, .int .i64 2, .int .i64 (n : Int), .int .i64 (n : Int), .bool d, .int .i64 4, .int .i64 0, .int .i64 0] 66)).cell 2).trans rfl
      have kBlast0 := ((hlast.alloc (.cells #[.bool b, .int .i64 2, .int .i64 (n : Int), .int .i64 (n : Int), .bool d, .int .i64 4, .int .i64 0, .int .i64 0] 66)).cell 0).trans rfl
      have kBlast1 := ((hlast.alloc (.cells #[.bool b, .int .i64 2, .int .i64 (n : Int), .int .i64 (n : Int), .bool d, .int .i64 4, .int .i64 0, .int .i64 0] 66)).cell 1).trans rfl
      have kBlast2 := ((hlast.alloc (.cells #[.bool b, .int .i64 2, .int .i64 (n : Int), .int .i64 (n : Int), .bool d, .int .i64 4, .int .i64 0, .int .i64 0] 66)).cell 2).trans rfl
      have kCrule0 := (((hrule.alloc (.cells #[.bool b, .int .i64 2, .int .i64 (n : Int), .int .i64 (n : Int), .bool d, .int .i64 4, .int .i64 0, .int .i64 0] 66)).alloc (.cells #[.bool c, .int .i64 2, .int .i64 (n : Int), .int .i64 AT, .bool d, .int .i64 4, .int .i64 0, .int .i64 0] 66)).cell 0).trans rfl
      have kCrule1 := (((hrule.alloc (.cells #[.bool b, .int .i64 2, .int .i64 (n : Int), .int .i64 (n : Int), .bool d, .int .i64 4, .int .i64 0, .int .i64 0] 66)).alloc (.cells #[.bool c, .int .i64 2, .int .i64 (n : Int), .int .i64 AT, .bool d, .int .i64 4, .int .i64 0, .int .i64 0] 66)).cell 1).trans rfl
      have kCrule2 := (((hrule.alloc (.cells #[.bool b, .int .i64 2, .int .i64 (n : Int), .int .i64 (n : Int), .bool d, .int .i64 4, .int .i64 0, .int .i64 0] 66)).alloc (.cells #[.bool c, .int .i64 2, .int .i64 (n : Int), .int .i64 AT, .bool d, .int .i64 4, .int .i64 0, .int .i64 0] 66)).cell 2).trans rfl
      have kCsecond0 := (((hsecond.alloc (.cells #[.bool b, .int .i64 2, .int .i64 (n : Int), .int .i64 (n : Int), .bool d, .int .i64 4, .int .i64 0, .int .i64 0] 66)).alloc (.cells #[.bool c, .int .i64 2, .int .i64 (n : Int), .int .i64 AT, .bool d, .int .i64 4, .int .i64 0, .int .i64 0] 66)).cell 0).trans rfl
      have kCsecond1 := (((hsecond.alloc (.cells #[.bool b, .int .i64 2, .int .i64 (n : Int), .int .i64 (n : Int), .bool d, .int .i64 4, .int .i64 0, .int .i64 0] 66)).alloc (.cells #[.bool c, .int .i64 2, .int .i64 (n : Int), .int .i64 AT, .bool d, .int .i64 4, .int .i64 0, .int .i64 0] 66)).cell 1).trans rfl
      have kCsecond2 := (((hsecond.alloc (.cells #[.bool b, .int .i64 2, .int .i64 (n : Int), .int .i64 (n : Int), .bool d, .int .i64 4, .int .i64 0, .int .i64 0] 66)).alloc (.cells #[.bool c, .int .i64 2, .int .i64 (n : Int), .int .i64 AT, .bool d, .int .i64 4, .int .i64 0, .int .i64 0] 66)).cell 2).trans rfl
      have hrA0 := Blk.newAt V5 (V5.heap.size) (by simp) 66 #[.bool b, .int .i64 2, .int .i64 (n : Int), .int .i64 (n : Int), .bool d, .int .i64 4, .int .i64 0, .int .i64 0]
      have hrA := ((hrA0.alloc (.cells #[.bool c, .int .i64 2, .int .i64 (n : Int), .int .i64 AT, .bool d, .int .i64 4, .int .i64 0, .int .i64 0] 66)).alloc (.cells #[.bool a, .int .i64 1, .int .i64 (n : Int), .int .i64 0, .bool c, .int .i64 2, .int .i64 (n : Int), .int .i64 AT] 66)).alloc (.cells #[.slice (some ⟨V5.heap.size, 0, none⟩) 2 2, .slice (some ⟨V5.heap.size + 1, 0, none⟩) 2 2, .slice (some ⟨V5.heap.size + 1 + 1, 0, none⟩) 2 2] 67)
      have hrB0 := Blk.newAt (V5.alloc (.cells #[.bool b, .int .i64 2, .int .i64 (n : Int), .int .i64 (n : Int), .bool d, .int .i64 4, .int .i64 0, .int .i64 0] 66)) (V5.heap.size + 1) (by simp) 66 #[.bool c, .int .i64 2, .int .i64 (n : Int), .int .i64 AT, .bool d, .int .i64 4, .int .i64 0, .int .i64 0]
      have hrB := (hrB0.alloc (.cells #[.bool a, .int .i64 1, .int .i64 (n : Int), .int .i64 0, .bool c, .int .i64 2, .int .i64 (n : Int), .int .i64 AT] 66)).alloc (.cells #[.slice (some ⟨V5.heap.size, 0, none⟩) 2 2, .slice (some ⟨V5.heap.size + 1, 0, none⟩) 2 2, .slice (some ⟨V5.heap.size + 1 + 1, 0, none⟩) 2 2] 67)
      have hrC0 := Blk.newAt ((V5.alloc (.cells #[.bool b, .int .i64 2, .int .i64 (n : Int), .int .i64 (n : Int), .bool d, .int .i64 4, .int .i64 0, .int .i64 0] 66)).alloc (.cells #[.bool c, .int .i64 2, .int .i64 (n : Int), .int .i64 AT, .bool d, .int .i64 4, .int .i64 0, .int .i64 0] 66)) (V5.heap.size + 1 + 1) (by simp) 66 #[.bool a, .int .i64 1, .int .i64 (n : Int), .int .i64 0, .bool c, .int .i64 2, .int .i64 (n : Int), .int .i64 AT]
      have hrC := hrC0.alloc (.cells #[.slice (some ⟨V5.heap.size, 0, none⟩) 2 2, .slice (some ⟨V5.heap.size + 1, 0, none⟩) 2 2, .slice (some ⟨V5.heap.size + 1 + 1, 0, none⟩) 2 2] 67)
      have hO := Blk.newAt (((V5.alloc (.cells #[.bool b, .int .i64 2, .int .i64 (n : Int), .int .i64 (n : Int), .bool d, .int .i64 4, .int .i64 0, .int .i64 0] 66)).alloc (.cells #[.bool c, .int .i64 2, .int .i64 (n : Int), .int .i64 AT, .bool d, .int .i64 4, .int .i64 0, .int .i64 0] 66)).alloc (.cells #[.bool a, .int .i64 1, .int .i64 (n : Int), .int .i64 0, .bool c, .int .i64 2, .int .i64 (n : Int), .int .i64 AT] 66)) (V5.heap.size + 1 + 1 + 1) (by simp) 67 #[.slice (some ⟨V5.heap.size, 0, none⟩) 2 2, .slice (some ⟨V5.heap.size + 1, 0, none⟩) 2 2, .slice (some ⟨V5.heap.size + 1 + 1, 0, none⟩) 2 2]
      have hXz := (((hX.alloc (.cells #[.bool b, .int .i64 2, .int .i64 (n : Int), .int .i64 (n : Int), .bool d, .int .i64 4, .int .i64 0, .int .i64 0] 66)).alloc (.cells #[.bool c, .int .i64 2, .int .i64 (n : Int), .int .i64 AT, .bool d, .int .i64 4, .int .i64 0, .int .i64 0] 66)).alloc (.cells #[.bool a, .int .i64 1, .int .i64 (n : Int), .int .i64 0, .bool c, .int .i64 2, .int .i64 (n : Int), .int .i64 AT] 66)).alloc (.cells #[.slice (some ⟨V5.heap.size, 0, none⟩) 2 2, .slice (some ⟨V5.heap.size + 1, 0, none⟩) 2 2, .slice (some ⟨V5.heap.size + 1 + 1, 0, none⟩) 2 2] 67)
      have hby0 := hb.alloc hb.size (.cells #[.bool b, .int .i64 2, .int .i64 (n : Int), .int .i64 (n : Int), .bool d, .int .i64 4, .int .i64 0, .int .i64 0] 66)
      have hby1 := hby0.alloc hby0.size (.cells #[.bool c, .int .i64 2, .int .i64 (n : Int), .int .i64 AT, .bool d, .int .i64 4, .int .i64 0, .int .i64 0] 66)
      have hby2 := hby1.alloc hby1.size (.cells #[.bool a, .int .i64 1, .int .i64 (n : Int), .int .i64 0, .bool c, .int .i64 2, .int .i64 (n : Int), .int .i64 AT] 66)
      have hbz := hby2.alloc hby2.size (.cells #[.slice (some ⟨V5.heap.size, 0, none⟩) 2 2, .slice (some ⟨V5.heap.size + 1, 0, none⟩) 2 2, .slice (some ⟨V5.heap.size + 1 + 1, 0, none⟩) 2 2] 67)
      have HH := Lib.hid (And.intro hXz (And.intro hrA (And.intro hrB (And.intro hrC (And.intro hO hbz)))))
      clear hX hrule hfirst hsecond hlast hb hrA0 hrB0 hrC0 hrA hrB hrC hO hXz hby0 hby1 hby2 hbz
      go_wp2_with fail
      obtain ⟨hX, hrA, hrB, hrC, hO, hb⟩ := HH.out
      clear HH kAfirst0 kAfirst1 kAfirst2 kAlast0 kAlast1 kAlast2 kBsecond0 kBsecond1 kBsecond2 kBlast0 kBlast1 kBlast2 kCrule0 kCrule1 kCrule2 kCsecond0 kCsecond1 kCsecond2
      generalize (((V5.alloc (.cells #[.bool b, .int .i64 2, .int .i64 (n : Int), .int .i64 (n : Int), .bool d, .int .i64 4, .int .i64 0, .int .i64 0] 66)).alloc (.cells #[.bool c, .int .i64 2, .int .i64 (n : Int), .int .i64 AT, .bool d, .int .i64 4, .int .i64 0, .int .i64 0] 66)).alloc (.cells #[.bool a, .int .i64 1, .int .i64 (n : Int), .int .i64 0, .bool c, .int .i64 2, .int .i64 (n : Int), .int .i64 AT] 66)).alloc (.cells #[.slice (some ⟨V5.heap.size, 0, none⟩) 2 2, .slice (some ⟨V5.heap.size + 1, 0, none⟩) 2 2, .slice (some ⟨V5.heap.size + 1 + 1, 0, none⟩) 2 2] 67) = V9 at *
      generalize V5.heap.size + 1 + 1 + 1 = GO at *
      generalize V5.heap.size + 1 + 1 = GC at *
      generalize V5.heap.size + 1 = GB at *
      generalize V5.heap.size = GA at *
      go_loopw [77] (fun i wr => ∃ k : Nat, k ≤ 3 ∧ i = .int .i64 (k : Int) ∧ Blk wr GX 62 #[.slice s.rA NR s.rc, .slice s.zA NZ s.zc, .slice s.kA NK s.kc, .slice s.hA NH s.hc] ∧ Blk wr GA 66 #[.bool b, .int .i64 2, .int .i64 (n : Int), .int .i64 (n : Int), .bool d, .int .i64 4, .int .i64 0, .int .i64 0] ∧ Blk wr GB 66 #[.bool c, .int .i64 2, .int .i64 (n : Int), .int .i64 AT, .bool d, .int .i64 4, .int .i64 0, .int .i64 0] ∧ Blk wr GC 66 #[.bool a, .int .i64 1, .int .i64 (n : Int), .int .i64 0, .bool c, .int .i64 2, .int .i64 (n : Int), .int .i64 AT] ∧ Blk wr GO 67 #[.slice (some ⟨GA, 0, none⟩) 2 2, .slice (some ⟨GB, 0, none⟩) 2 2, .slice (some ⟨GC, 0, none⟩) 2 2] ∧ Below W1.heap.size W1 wr) (fun i _ => 3 - (intOf i).toNat)
      case atStart => exact ⟨0, by omega, rfl, hX, hrA, hrB, hrC, hO, hb⟩
      case round =>
        clear hX hrA hrB hrC hO hb
        obtain ⟨k, hk, rfl, hX, hrA, hrB, hrC, hO, hb⟩ := hrel
        by_cases hlt : k < 3
        · have hk3 : k = 0 ∨ k = 1 ∨ k = 2 := by omega
          have hnp : ∀ (W : World) (a b c : Int), (binOp .neq 65 (.agg #[.int .i64 a, .int .i64 b, .int .i64 c]) (.agg #[.int .i64 a, .int .i64 b, .int .i64 c])).run Tryd.prog W = .ok (.bool false) W := fun W a b c => by rw [neq_place]; simp
          clear hk hlt
          have hp := HP.out
          clear HP
          obtain ⟨hp1, hp2, hp3⟩ := hp
          rcases hk3 with rfl | rfl | rfl
          · have cx := cC.out 1
            rw [hp1] at cx
            clear hp1 hp2 hp3 cC
            cases b <;> cases d
            · skip
              have CX : Hid (∀ W, Below W1.heap.size W1 W → Calls Tryd.prog 27 #[.agg #[.slice s.rA NR s.rc, .slice s.zA NZ s.zc, .slice s.kA NK s.kc, .slice s.hA NH s.hc], .int .i64 1] W fun e w' => e = .returned (.tuple #[.agg #[.int .i64 0, .int .i64 0, .int .i64 0], .int .i64 0]) ∧ Below W.heap.size W w') := Lib.hid fun W h => by
                have q := cx W h
                simp only [if_false, Bool.false_eq_true] at q
                exact q
              have c0 := ((hrA.alloc (.cells #[.int .i64 0, .int .i64 0, .int .i64 0] 65)).cell 0).trans rfl
              have c1 := ((hrA.alloc (.cells #[.int .i64 0, .int .i64 0, .int .i64 0] 65)).cell 1).trans rfl
              have c2 := ((hrA.alloc (.cells #[.int .i64 0, .int .i64 0, .int .i64 0] 65)).cell 2).trans rfl
              have c3 := ((hrA.alloc (.cells #[.int .i64 0, .int .i64 0, .int .i64 0] 65)).cell 3).trans rfl
              have c4 := (((hrA.alloc (.cells #[.int .i64 0, .int .i64 0, .int .i64 0] 65)).alloc (.cells #[.bool false, .int .i64 2, .int .i64 (n : Int), .int .i64 (n : Int)] 66)).cell 4).trans rfl
              have c5 := (((hrA.alloc (.cells #[.int .i64 0, .int .i64 0, .int .i64 0] 65)).alloc (.cells #[.bool false, .int .i64 2, .int .i64 (n : Int), .int .i64 (n : Int)] 66)).cell 5).trans rfl
              have c6 := (((hrA.alloc (.cells #[.int .i64 0, .int .i64 0, .int .i64 0] 65)).alloc (.cells #[.bool false, .int .i64 2, .int .i64 (n : Int), .int .i64 (n : Int)] 66)).cell 6).trans rfl
              have c7 := (((hrA.alloc (.cells #[.int .i64 0, .int .i64 0, .int .i64 0] 65)).alloc (.cells #[.bool false, .int .i64 2, .int .i64 (n : Int), .int .i64 (n : Int)] 66)).cell 7).trans rfl
              have co := (hO.cell 0).trans rfl
              have hX2 := ((hX.alloc (.cells #[.int .i64 0, .int .i64 0, .int .i64 0] 65)).alloc (.cells #[.bool false, .int .i64 2, .int .i64 (n : Int), .int .i64 (n : Int)] 66)).alloc (.cells #[.bool false, .int .i64 4, .int .i64 0, .int .i64 0] 66)
              have hrA2 := ((hrA.alloc (.cells #[.int .i64 0, .int .i64 0, .int .i64 0] 65)).alloc (.cells #[.bool false, .int .i64 2, .int .i64 (n : Int), .int .i64 (n : Int)] 66)).alloc (.cells #[.bool false, .int .i64 4, .int .i64 0, .int .i64 0] 66)
              have hrB2 := ((hrB.alloc (.cells #[.int .i64 0, .int .i64 0, .int .i64 0] 65)).alloc (.cells #[.bool false, .int .i64 2, .int .i64 (n : Int), .int .i64 (n : Int)] 66)).alloc (.cells #[.bool false, .int .i64 4, .int .i64 0, .int .i64 0] 66)
              have hrC2 := ((hrC.alloc (.cells #[.int .i64 0, .int .i64 0, .int .i64 0] 65)).alloc (.cells #[.bool false, .int .i64 2, .int .i64 (n : Int), .int .i64 (n : Int)] 66)).alloc (.cells #[.bool false, .int .i64 4, .int .i64 0, .int .i64 0] 66)
              have hO2 := ((hO.alloc (.cells #[.int .i64 0, .int .i64 0, .int .i64 0] 65)).alloc (.cells #[.bool false, .int .i64 2, .int .i64 (n : Int), .int .i64 (n : Int)] 66)).alloc (.cells #[.bool false, .int .i64 4, .int .i64 0, .int .i64 0] 66)
              have hba := hb.alloc hb.size (.cells #[.int .i64 0, .int .i64 0, .int .i64 0] 65)
              have hbb := hba.alloc hba.size (.cells #[.bool false, .int .i64 2, .int .i64 (n : Int), .int .i64 (n : Int)] 66)
              have hb2 := hbb.alloc hbb.size (.cells #[.bool false, .int .i64 4, .int .i64 0, .int .i64 0] 66)
              have hW2 := ((Blk.new wr 65 #[.int .i64 0, .int .i64 0, .int .i64 0]).alloc (.cells #[.bool false, .int .i64 2, .int .i64 (n : Int), .int .i64 (n : Int)] 66)).alloc (.cells #[.bool false, .int .i64 4, .int .i64 0, .int .i64 0] 66)
              have x0 := (hX2.cell 0).trans rfl
              have x1 := (hX2.cell 1).trans rfl
              have x2 := (hX2.cell 2).trans rfl
              have x3 := (hX2.cell 3).trans rfl
              have HH := Lib.hid (And.intro hX2 (And.intro hrA2 (And.intro hrB2 (And.intro hrC2 (And.intro hO2 (And.intro hb2 hW2))))))
              clear cx hX hrA hrB hrC hO hb hX2 hrA2 hrB2 hrC2 hO2 hba hbb hb2 hW2
              go_wp2_with fail
              refine wp_loop_rounds 3 ?_
              rw [rounds_succ]
              go_wp2_with fail
              rw [rounds_succ]
              go_wp2_with fail
              rw [rounds_succ]
              go_wp2_with fail
              refine (CX.out _ HH.out.2.2.2.2.2.1).mono ?_
              rintro e W3 ⟨rfl, hc⟩
              obtain ⟨hX2, hrA2, hrB2, hrC2, hO2, hb2, hW2⟩ := HH.out
              have hX3 := (hX2.below hc hX2.lt).alloc (.cells #[.int .i64 0, .int .i64 0, .int .i64 0] 65)
              have hrA3 := (hrA2.below hc hrA2.lt).alloc (.cells #[.int .i64 0, .int .i64 0, .int .i64 0] 65)
              have hrB3 := (hrB2.below hc hrB2.lt).alloc (.cells #[.int .i64 0, .int .i64 0, .int .i64 0] 65)
              have hrC3 := (hrC2.below hc hrC2.lt).alloc (.cells #[.int .i64 0, .int .i64 0, .int .i64 0] 65)
              have hO3 := (hO2.below hc hO2.lt).alloc (.cells #[.int .i64 0, .int .i64 0, .int .i64 0] 65)
              have hW3 := (hW2.below hc hW2.lt).alloc (.cells #[.int .i64 0, .int .i64 0, .int .i64 0] 65)
              have hb3 := (hb2.trans (hc.mono hb2.size)).alloc (Nat.le_trans hb2.size hc.size) (.cells #[.int .i64 0, .int .i64 0, .int .i64 0] 65)
              have hQ3 := Blk.new W3 65 #[.int .i64 0, .int .i64 0, .int .i64 0]
              have w0 := (hW3.cell 0).trans rfl
              have w1 := (hW3.cell 1).trans rfl
              have w2 := (hW3.cell 2).trans rfl
              have HG := Lib.hid (And.intro hX3 (And.intro hrA3 (And.intro hrB3 (And.intro hrC3 (And.intro hO3 hb3)))))
              clear HH CX hX2 hrA2 hrB2 hrC2 hO2 hb2 hW2 hX3 hrA3 hrB3 hrC3 hO3 hb3 hW3 hQ3 hc co x0 x1 x2 x3 c0 c1 c2 c3 c4 c5 c6 c7
              go_wp2_with fail
              go_roundw
              case rel => exact ⟨1, by omega, by go_num, HG.out⟩
              case measure => simp [intOf]
            · skip
              have CX : Hid (∀ W, Below W1.heap.size W1 W → Calls Tryd.prog 27 #[.agg #[.slice s.rA NR s.rc, .slice s.zA NZ s.zc, .slice s.kA NK s.kc, .slice s.hA NH s.hc], .int .i64 1] W fun e w' => e = .returned (.tuple #[.agg #[.int .i64 4, .int .i64 0, .int .i64 0], .int .i64 17]) ∧ Below W.heap.size W w') := Lib.hid fun W h => by
                have q := cx W h
                simp only [if_true, if_false, Bool.false_eq_true] at q
                exact q
              have c0 := ((hrA.alloc (.cells #[.int .i64 0, .int .i64 0, .int .i64 0] 65)).cell 0).trans rfl
              have c1 := ((hrA.alloc (.cells #[.int .i64 0, .int .i64 0, .int .i64 0] 65)).cell 1).trans rfl
              have c2 := ((hrA.alloc (.cells #[.int .i64 0, .int .i64 0, .int .i64 0] 65)).cell 2).trans rfl
              have c3 := ((hrA.alloc (.cells #[.int .i64 0, .int .i64 0, .int .i64 0] 65)).cell 3).trans rfl
              have c4 := (((hrA.alloc (.cells #[.int .i64 0, .int .i64 0, .int .i64 0] 65)).alloc (.cells #[.bool false, .int .i64 2, .int .i64 (n : Int), .int .i64 (n : Int)] 66)).cell 4).trans rfl
              have c5 := (((hrA.alloc (.cells #[.int .i64 0, .int .i64 0, .int .i64 0] 65)).alloc (.cells #[.bool false, .int .i64 2, .int .i64 (n : Int), .int .i64 (n : Int)] 66)).cell 5).trans rfl
              have c6 := (((hrA.alloc (.cells #[.int .i64 0, .int .i64 0, .int .i64 0] 65)).alloc (.cells #[.bool false, .int .i64 2, .int .i64 (n : Int), .int .i64 (n : Int)] 66)).cell 6).trans rfl
              have c7 := (((hrA.alloc (.cells #[.int .i64 0, .int .i64 0, .int .i64 0] 65)).alloc (.cells #[.bool false, .int .i64 2, .int .i64 (n : Int), .int .i64 (n : Int)] 66)).cell 7).trans rfl
              have co := (hO.cell 0).trans rfl
              have hX2 := ((hX.alloc (.cells #[.int .i64 4, .int .i64 0, .int .i64 0] 65)).alloc (.cells #[.bool false, .int .i64 2, .int .i64 (n : Int), .int .i64 (n : Int)] 66)).alloc (.cells #[.bool true, .int .i64 4, .int .i64 0, .int .i64 0] 66)
              have hrA2 := ((hrA.alloc (.cells #[.int .i64 4, .int .i64 0, .int .i64 0] 65)).alloc (.cells #[.bool false, .int .i64 2, .int .i64 (n : Int), .int .i64 (n : Int)] 66)).alloc (.cells #[.bool true, .int .i64 4, .int .i64 0, .int .i64 0] 66)
              have hrB2 := ((hrB.alloc (.cells #[.int .i64 4, .int .i64 0, .int .i64 0] 65)).alloc (.cells #[.bool false, .int .i64 2, .int .i64 (n : Int), .int .i64 (n : Int)] 66)).alloc (.cells #[.bool true, .int .i64 4, .int .i64 0, .int .i64 0] 66)
              have hrC2 := ((hrC.alloc (.cells #[.int .i64 4, .int .i64 0, .int .i64 0] 65)).alloc (.cells #[.bool false, .int .i64 2, .int .i64 (n : Int), .int .i64 (n : Int)] 66)).alloc (.cells #[.bool true, .int .i64 4, .int .i64 0, .int .i64 0] 66)
              have hO2 := ((hO.alloc (.cells #[.int .i64 4, .int .i64 0, .int .i64 0] 65)).alloc (.cells #[.bool false, .int .i64 2, .int .i64 (n : Int), .int .i64 (n : Int)] 66)).alloc (.cells #[.bool true, .int .i64 4, .int .i64 0, .int .i64 0] 66)
              have hba := hb.alloc hb.size (.cells #[.int .i64 4, .int .i64 0, .int .i64 0] 65)
              have hbb := hba.alloc hba.size (.cells #[.bool false, .int .i64 2, .int .i64 (n : Int), .int .i64 (n : Int)] 66)
              have hb2 := hbb.alloc hbb.size (.cells #[.bool true, .int .i64 4, .int .i64 0, .int .i64 0] 66)
              have hW2 := ((Blk.new wr 65 #[.int .i64 4, .int .i64 0, .int .i64 0]).alloc (.cells #[.bool false, .int .i64 2, .int .i64 (n : Int), .int .i64 (n : Int)] 66)).alloc (.cells #[.bool true, .int .i64 4, .int .i64 0, .int .i64 0] 66)
              have x0 := (hX2.cell 0).trans rfl
              have x1 := (hX2.cell 1).trans rfl
              have x2 := (hX2.cell 2).trans rfl
              have x3 := (hX2.cell 3).trans rfl
              have HH := Lib.hid (And.intro hX2 (And.intro hrA2 (And.intro hrB2 (And.intro hrC2 (And.intro hO2 (And.intro hb2 hW2))))))
              clear cx hX hrA hrB hrC hO hb hX2 hrA2 hrB2 hrC2 hO2 hba hbb hb2 hW2
              go_wp2_with fail
              refine wp_loop_rounds 3 ?_
              rw [rounds_succ]
              go_wp2_with fail
              rw [rounds_succ]
              go_wp2_with fail
              rw [rounds_succ]
              go_wp2_with fail
              refine (CX.out _ HH.out.2.2.2.2.2.1).mono ?_
              rintro e W3 ⟨rfl, hc⟩
              obtain ⟨hX2, hrA2, hrB2, hrC2, hO2, hb2, hW2⟩ := HH.out
              have hX3 := (hX2.below hc hX2.lt).alloc (.cells #[.int .i64 4, .int .i64 0, .int .i64 0] 65)
              have hrA3 := (hrA2.below hc hrA2.lt).alloc (.cells #[.int .i64 4, .int .i64 0, .int .i64 0] 65)
              have hrB3 := (hrB2.below hc hrB2.lt).alloc (.cells #[.int .i64 4, .int .i64 0, .int .i64 0] 65)
              have hrC3 := (hrC2.below hc hrC2.lt).alloc (.cells #[.int .i64 4, .int .i64 0, .int .i64 0] 65)
              have hO3 := (hO2.below hc hO2.lt).alloc (.cells #[.int .i64 4, .int .i64 0, .int .i64 0] 65)
              have hW3 := (hW2.below hc hW2.lt).alloc (.cells #[.int .i64 4, .int .i64 0, .int .i64 0] 65)
              have hb3 := (hb2.trans (hc.mono hb2.size)).alloc (Nat.le_trans hb2.size hc.size) (.cells #[.int .i64 4, .int .i64 0, .int .i64 0] 65)
              have hQ3 := Blk.new W3 65 #[.int .i64 4, .int .i64 0, .int .i64 0]
              have w0 := (hW3.cell 0).trans rfl
              have w1 := (hW3.cell 1).trans rfl
              have w2 := (hW3.cell 2).trans rfl
              have HG := Lib.hid (And.intro hX3 (And.intro hrA3 (And.intro hrB3 (And.intro hrC3 (And.intro hO3 hb3)))))
              clear HH CX hX2 hrA2 hrB2 hrC2 hO2 hb2 hW2 hX3 hrA3 hrB3 hrC3 hO3 hb3 hW3 hQ3 hc co x0 x1 x2 x3 c0 c1 c2 c3 c4 c5 c6 c7
              go_wp2_with fail
              go_roundw
              case rel => exact ⟨1, by omega, by go_num, HG.out⟩
              case measure => simp [intOf]
            · skip
              have CX : Hid (∀ W, Below W1.heap.size W1 W → Calls Tryd.prog 27 #[.agg #[.slice s.rA NR s.rc, .slice s.zA NZ s.zc, .slice s.kA NK s.kc, .slice s.hA NH s.hc], .int .i64 1] W fun e w' => e = .returned (.tuple #[.agg #[.int .i64 2, .int .i64 (n : Int), .int .i64 (n : Int)], .int .i64 17]) ∧ Below W.heap.size W w') := Lib.hid fun W h => by
                have q := cx W h
                simp only [if_true, if_false, Bool.false_eq_true] at q
                exact q
              have c0 := ((hrA.alloc (.cells #[.int .i64 0, .int .i64 0, .int .i64 0] 65)).cell 0).trans rfl
              have c1 := ((hrA.alloc (.cells #[.int .i64 0, .int .i64 0, .int .i64 0] 65)).cell 1).trans rfl
              have c2 := ((hrA.alloc (.cells #[.int .i64 0, .int .i64 0, .int .i64 0] 65)).cell 2).trans rfl
              have c3 := ((hrA.alloc (.cells #[.int .i64 0, .int .i64 0, .int .i64 0] 65)).cell 3).trans rfl
              have c4 := (((hrA.alloc (.cells #[.int .i64 2, .int .i64 (n : Int), .int .i64 (n : Int)] 65)).alloc (.cells #[.bool true, .int .i64 2, .int .i64 (n : Int), .int .i64 (n : Int)] 66)).cell 4).trans rfl
              have c5 := (((hrA.alloc (.cells #[.int .i64 2, .int .i64 (n : Int), .int .i64 (n : Int)] 65)).alloc (.cells #[.bool true, .int .i64 2, .int .i64 (n : Int), .int .i64 (n : Int)] 66)).cell 5).trans rfl
              have c6 := (((hrA.alloc (.cells #[.int .i64 2, .int .i64 (n : Int), .int .i64 (n : Int)] 65)).alloc (.cells #[.bool true, .int .i64 2, .int .i64 (n : Int), .int .i64 (n : Int)] 66)).cell 6).trans rfl
              have c7 := (((hrA.alloc (.cells #[.int .i64 2, .int .i64 (n : Int), .int .i64 (n : Int)] 65)).alloc (.cells #[.bool true, .int .i64 2, .int .i64 (n : Int), .int .i64 (n : Int)] 66)).cell 7).trans rfl
              have co := (hO.cell 0).trans rfl
              have hX2 := ((hX.alloc (.cells #[.int .i64 2, .int .i64 (n : Int), .int .i64 (n : Int)] 65)).alloc (.cells #[.bool true, .int .i64 2, .int .i64 (n : Int), .int .i64 (n : Int)] 66)).alloc (.cells #[.bool false, .int .i64 4, .int .i64 0, .int .i64 0] 66)
              have hrA2 := ((hrA.alloc (.cells #[.int .i64 2, .int .i64 (n : Int), .int .i64 (n : Int)] 65)).alloc (.cells #[.bool true, .int .i64 2, .int .i64 (n : Int), .int .i64 (n : Int)] 66)).alloc (.cells #[.bool false, .int .i64 4, .int .i64 0, .int .i64 0] 66)
              have hrB2 := ((hrB.alloc (.cells #[.int .i64 2, .int .i64 (n : Int), .int .i64 (n : Int)] 65)).alloc (.cells #[.bool true, .int .i64 2, .int .i64 (n : Int), .int .i64 (n : Int)] 66)).alloc (.cells #[.bool false, .int .i64 4, .int .i64 0, .int .i64 0] 66)
              have hrC2 := ((hrC.alloc (.cells #[.int .i64 2, .int .i64 (n : Int), .int .i64 (n : Int)] 65)).alloc (.cells #[.bool true, .int .i64 2, .int .i64 (n : Int), .int .i64 (n : Int)] 66)).alloc (.cells #[.bool false, .int .i64 4, .int .i64 0, .int .i64 0] 66)
              have hO2 := ((hO.alloc (.cells #[.int .i64 2, .int .i64 (n : Int), .int .i64 (n : Int)] 65)).alloc (.cells #[.bool true, .int .i64 2, .int .i64 (n : Int), .int .i64 (n : Int)] 66)).alloc (.cells #[.bool false, .int .i64 4, .int .i64 0, .int .i64 0] 66)
              have hba := hb.alloc hb.size (.cells #[.int .i64 2, .int .i64 (n : Int), .int .i64 (n : Int)] 65)
              have hbb := hba.alloc hba.size (.cells #[.bool true, .int .i64 2, .int .i64 (n : Int), .int .i64 (n : Int)] 66)
              have hb2 := hbb.alloc hbb.size (.cells #[.bool false, .int .i64 4, .int .i64 0, .int .i64 0] 66)
              have hW2 := ((Blk.new wr 65 #[.int .i64 2, .int .i64 (n : Int), .int .i64 (n : Int)]).alloc (.cells #[.bool true, .int .i64 2, .int .i64 (n : Int), .int .i64 (n : Int)] 66)).alloc (.cells #[.bool false, .int .i64 4, .int .i64 0, .int .i64 0] 66)
              have x0 := (hX2.cell 0).trans rfl
              have x1 := (hX2.cell 1).trans rfl
              have x2 := (hX2.cell 2).trans rfl
              have x3 := (hX2.cell 3).trans rfl
              have HH := Lib.hid (And.intro hX2 (And.intro hrA2 (And.intro hrB2 (And.intro hrC2 (And.intro hO2 (And.intro hb2 hW2))))))
              clear cx hX hrA hrB hrC hO hb hX2 hrA2 hrB2 hrC2 hO2 hba hbb hb2 hW2
              go_wp2_with fail
              refine wp_loop_rounds 3 ?_
              rw [rounds_succ]
              go_wp2_with fail
              rw [rounds_succ]
              go_wp2_with fail
              rw [rounds_succ]
              go_wp2_with fail
              refine (CX.out _ HH.out.2.2.2.2.2.1).mono ?_
              rintro e W3 ⟨rfl, hc⟩
              obtain ⟨hX2, hrA2, hrB2, hrC2, hO2, hb2, hW2⟩ := HH.out
              have hX3 := (hX2.below hc hX2.lt).alloc (.cells #[.int .i64 2, .int .i64 (n : Int), .int .i64 (n : Int)] 65)
              have hrA3 := (hrA2.below hc hrA2.lt).alloc (.cells #[.int .i64 2, .int .i64 (n : Int), .int .i64 (n : Int)] 65)
              have hrB3 := (hrB2.below hc hrB2.lt).alloc (.cells #[.int .i64 2, .int .i64 (n : Int), .int .i64 (n : Int)] 65)
              have hrC3 := (hrC2.below hc hrC2.lt).alloc (.cells #[.int .i64 2, .int .i64 (n : Int), .int .i64 (n : Int)] 65)
              have hO3 := (hO2.below hc hO2.lt).alloc (.cells #[.int .i64 2, .int .i64 (n : Int), .int .i64 (n : Int)] 65)
              have hW3 := (hW2.below hc hW2.lt).alloc (.cells #[.int .i64 2, .int .i64 (n : Int), .int .i64 (n : Int)] 65)
              have hb3 := (hb2.trans (hc.mono hb2.size)).alloc (Nat.le_trans hb2.size hc.size) (.cells #[.int .i64 2, .int .i64 (n : Int), .int .i64 (n : Int)] 65)
              have hQ3 := Blk.new W3 65 #[.int .i64 2, .int .i64 (n : Int), .int .i64 (n : Int)]
              have w0 := (hW3.cell 0).trans rfl
              have w1 := (hW3.cell 1).trans rfl
              have w2 := (hW3.cell 2).trans rfl
              have HG := Lib.hid (And.intro hX3 (And.intro hrA3 (And.intro hrB3 (And.intro hrC3 (And.intro hO3 hb3)))))
              clear HH CX hX2 hrA2 hrB2 hrC2 hO2 hb2 hW2 hX3 hrA3 hrB3 hrC3 hO3 hb3 hW3 hQ3 hc co x0 x1 x2 x3 c0 c1 c2 c3 c4 c5 c6 c7
              go_wp2_with fail
              go_roundw
              case rel => exact ⟨1, by omega, by go_num, HG.out⟩
              case measure => simp [intOf]
            · skip
              have CX : Hid (∀ W, Below W1.heap.size W1 W → Calls Tryd.prog 27 #[.agg #[.slice s.rA NR s.rc, .slice s.zA NZ s.zc, .slice s.kA NK s.kc, .slice s.hA NH s.hc], .int .i64 1] W fun e w' => e = .returned (.tuple #[.agg #[.int .i64 2, .int .i64 (n : Int), .int .i64 (n : Int)], .int .i64 17]) ∧ Below W.heap.size W w') := Lib.hid fun W h => by
                have q := cx W h
                simp only [if_true] at q
                exact q
              have c0 := ((hrA.alloc (.cells #[.int .i64 0, .int .i64 0, .int .i64 0] 65)).cell 0).trans rfl
              have c1 := ((hrA.alloc (.cells #[.int .i64 0, .int .i64 0, .int .i64 0] 65)).cell 1).trans rfl
              have c2 := ((hrA.alloc (.cells #[.int .i64 0, .int .i64 0, .int .i64 0] 65)).cell 2).trans rfl
              have c3 := ((hrA.alloc (.cells #[.int .i64 0, .int .i64 0, .int .i64 0] 65)).cell 3).trans rfl
              have c4 := (((hrA.alloc (.cells #[.int .i64 2, .int .i64 (n : Int), .int .i64 (n : Int)] 65)).alloc (.cells #[.bool true, .int .i64 2, .int .i64 (n : Int), .int .i64 (n : Int)] 66)).cell 4).trans rfl
              have c5 := (((hrA.alloc (.cells #[.int .i64 2, .int .i64 (n : Int), .int .i64 (n : Int)] 65)).alloc (.cells #[.bool true, .int .i64 2, .int .i64 (n : Int), .int .i64 (n : Int)] 66)).cell 5).trans rfl
              have c6 := (((hrA.alloc (.cells #[.int .i64 2, .int .i64 (n : Int), .int .i64 (n : Int)] 65)).alloc (.cells #[.bool true, .int .i64 2, .int .i64 (n : Int), .int .i64 (n : Int)] 66)).cell 6).trans rfl
              have c7 := (((hrA.alloc (.cells #[.int .i64 2, .int .i64 (n : Int), .int .i64 (n : Int)] 65)).alloc (.cells #[.bool true, .int .i64 2, .int .i64 (n : Int), .int .i64 (n : Int)] 66)).cell 7).trans rfl
              have co := (hO.cell 0).trans rfl
              have hX2 := ((hX.alloc (.cells #[.int .i64 2, .int .i64 (n : Int), .int .i64 (n : Int)] 65)).alloc (.cells #[.bool true, .int .i64 2, .int .i64 (n : Int), .int .i64 (n : Int)] 66)).alloc (.cells #[.bool true, .int .i64 4, .int .i64 0, .int .i64 0] 66)
              have hrA2 := ((hrA.alloc (.cells #[.int .i64 2, .int .i64 (n : Int), .int .i64 (n : Int)] 65)).alloc (.cells #[.bool true, .int .i64 2, .int .i64 (n : Int), .int .i64 (n : Int)] 66)).alloc (.cells #[.bool true, .int .i64 4, .int .i64 0, .int .i64 0] 66)
              have hrB2 := ((hrB.alloc (.cells #[.int .i64 2, .int .i64 (n : Int), .int .i64 (n : Int)] 65)).alloc (.cells #[.bool true, .int .i64 2, .int .i64 (n : Int), .int .i64 (n : Int)] 66)).alloc (.cells #[.bool true, .int .i64 4, .int .i64 0, .int .i64 0] 66)
              have hrC2 := ((hrC.alloc (.cells #[.int .i64 2, .int .i64 (n : Int), .int .i64 (n : Int)] 65)).alloc (.cells #[.bool true, .int .i64 2, .int .i64 (n : Int), .int .i64 (n : Int)] 66)).alloc (.cells #[.bool true, .int .i64 4, .int .i64 0, .int .i64 0] 66)
              have hO2 := ((hO.alloc (.cells #[.int .i64 2, .int .i64 (n : Int), .int .i64 (n : Int)] 65)).alloc (.cells #[.bool true, .int .i64 2, .int .i64 (n : Int), .int .i64 (n : Int)] 66)).alloc (.cells #[.bool true, .int .i64 4, .int .i64 0, .int .i64 0] 66)
              have hba := hb.alloc hb.size (.cells #[.int .i64 2, .int .i64 (n : Int), .int .i64 (n : Int)] 65)
              have hbb := hba.alloc hba.size (.cells #[.bool true, .int .i64 2, .int .i64 (n : Int), .int .i64 (n : Int)] 66)
              have hb2 := hbb.alloc hbb.size (.cells #[.bool true, .int .i64 4, .int .i64 0, .int .i64 0] 66)
              have hW2 := ((Blk.new wr 65 #[.int .i64 2, .int .i64 (n : Int), .int .i64 (n : Int)]).alloc (.cells #[.bool true, .int .i64 2, .int .i64 (n : Int), .int .i64 (n : Int)] 66)).alloc (.cells #[.bool true, .int .i64 4, .int .i64 0, .int .i64 0] 66)
              have x0 := (hX2.cell 0).trans rfl
              have x1 := (hX2.cell 1).trans rfl
              have x2 := (hX2.cell 2).trans rfl
              have x3 := (hX2.cell 3).trans rfl
              have HH := Lib.hid (And.intro hX2 (And.intro hrA2 (And.intro hrB2 (And.intro hrC2 (And.intro hO2 (And.intro hb2 hW2))))))
              clear cx hX hrA hrB hrC hO hb hX2 hrA2 hrB2 hrC2 hO2 hba hbb hb2 hW2
              go_wp2_with fail
              refine wp_loop_rounds 3 ?_
              rw [rounds_succ]
              go_wp2_with fail
              rw [rounds_succ]
              go_wp2_with fail
              rw [rounds_succ]
              go_wp2_with fail
              refine (CX.out _ HH.out.2.2.2.2.2.1).mono ?_
              rintro e W3 ⟨rfl, hc⟩
              obtain ⟨hX2, hrA2, hrB2, hrC2, hO2, hb2, hW2⟩ := HH.out
              have hX3 := (hX2.below hc hX2.lt).alloc (.cells #[.int .i64 2, .int .i64 (n : Int), .int .i64 (n : Int)] 65)
              have hrA3 := (hrA2.below hc hrA2.lt).alloc (.cells #[.int .i64 2, .int .i64 (n : Int), .int .i64 (n : Int)] 65)
              have hrB3 := (hrB2.below hc hrB2.lt).alloc (.cells #[.int .i64 2, .int .i64 (n : Int), .int .i64 (n : Int)] 65)
              have hrC3 := (hrC2.below hc hrC2.lt).alloc (.cells #[.int .i64 2, .int .i64 (n : Int), .int .i64 (n : Int)] 65)
              have hO3 := (hO2.below hc hO2.lt).alloc (.cells #[.int .i64 2, .int .i64 (n : Int), .int .i64 (n : Int)] 65)
              have hW3 := (hW2.below hc hW2.lt).alloc (.cells #[.int .i64 2, .int .i64 (n : Int), .int .i64 (n : Int)] 65)
              have hb3 := (hb2.trans (hc.mono hb2.size)).alloc (Nat.le_trans hb2.size hc.size) (.cells #[.int .i64 2, .int .i64 (n : Int), .int .i64 (n : Int)] 65)
              have hQ3 := Blk.new W3 65 #[.int .i64 2, .int .i64 (n : Int), .int .i64 (n : Int)]
              have w0 := (hW3.cell 0).trans rfl
              have w1 := (hW3.cell 1).trans rfl
              have w2 := (hW3.cell 2).trans rfl
              have HG := Lib.hid (And.intro hX3 (And.intro hrA3 (And.intro hrB3 (And.intro hrC3 (And.intro hO3 hb3)))))
              clear HH CX hX2 hrA2 hrB2 hrC2 hO2 hb2 hW2 hX3 hrA3 hrB3 hrC3 hO3 hb3 hW3 hQ3 hc co x0 x1 x2 x3 c0 c1 c2 c3 c4 c5 c6 c7
              go_wp2_with fail
              go_roundw
              case rel => exact ⟨1, by omega, by go_num, HG.out⟩
              case measure => simp [intOf]
          · have cx := cC.out 2
            rw [hp2] at cx
            clear hp1 hp2 hp3 cC
            have hat : c = true → (if b = true then (n : Int) + 1 else n) = AT := fun hc => by rw [← hAT]; unfold at24; subst hc; simp
            cases c <;> cases d
            · skip
              have CX : Hid (∀ W, Below W1.heap.size W1 W → Calls Tryd.prog 27 #[.agg #[.slice s.rA NR s.rc, .slice s.zA NZ s.zc, .slice s.kA NK s.kc, .slice s.hA NH s.hc], .int .i64 2] W fun e w' => e = .returned (.tuple #[.agg #[.int .i64 0, .int .i64 0, .int .i64 0], .int .i64 0]) ∧ Below W.heap.size W w') := Lib.hid fun W h => by
                have q := cx W h
                simp only [if_false, Bool.false_eq_true] at q
                exact q
              have c0 := ((hrB.alloc (.cells #[.int .i64 0, .int .i64 0, .int .i64 0] 65)).cell 0).trans rfl
              have c1 := ((hrB.alloc (.cells #[.int .i64 0, .int .i64 0, .int .i64 0] 65)).cell 1).trans rfl
              have c2 := ((hrB.alloc (.cells #[.int .i64 0, .int .i64 0, .int .i64 0] 65)).cell 2).trans rfl
              have c3 := ((hrB.alloc (.cells #[.int .i64 0, .int .i64 0, .int .i64 0] 65)).cell 3).trans rfl
              have c4 := (((hrB.alloc (.cells #[.int .i64 0, .int .i64 0, .int .i64 0] 65)).alloc (.cells #[.bool false, .int .i64 2, .int .i64 (n : Int), .int .i64 AT] 66)).cell 4).trans rfl
              have c5 := (((hrB.alloc (.cells #[.int .i64 0, .int .i64 0, .int .i64 0] 65)).alloc (.cells #[.bool false, .int .i64 2, .int .i64 (n : Int), .int .i64 AT] 66)).cell 5).trans rfl
              have c6 := (((hrB.alloc (.cells #[.int .i64 0, .int .i64 0, .int .i64 0] 65)).alloc (.cells #[.bool false, .int .i64 2, .int .i64 (n : Int), .int .i64 AT] 66)).cell 6).trans rfl
              have c7 := (((hrB.alloc (.cells #[.int .i64 0, .int .i64 0, .int .i64 0] 65)).alloc (.cells #[.bool false, .int .i64 2, .int .i64 (n : Int), .int .i64 AT] 66)).cell 7).trans rfl
              have co := (hO.cell 1).trans rfl
              have hX2 := ((hX.alloc (.cells #[.int .i64 0, .int .i64 0, .int .i64 0] 65)).alloc (.cells #[.bool false, .int .i64 2, .int .i64 (n : Int), .int .i64 AT] 66)).alloc (.cells #[.bool false, .int .i64 4, .int .i64 0, .int .i64 0] 66)
              have hrA2 := ((hrA.alloc (.cells #[.int .i64 0, .int .i64 0, .int .i64 0] 65)).alloc (.cells #[.bool false, .int .i64 2, .int .i64 (n : Int), .int .i64 AT] 66)).alloc (.cells #[.bool false, .int .i64 4, .int .i64 0, .int .i64 0] 66)
              have hrB2 := ((hrB.alloc (.cells #[.int .i64 0, .int .i64 0, .int .i64 0] 65)).alloc (.cells #[.bool false, .int .i64 2, .int .i64 (n : Int), .int .i64 AT] 66)).alloc (.cells #[.bool false, .int .i64 4, .int .i64 0, .int .i64 0] 66)
              have hrC2 := ((hrC.alloc (.cells #[.int .i64 0, .int .i64 0, .int .i64 0] 65)).alloc (.cells #[.bool false, .int .i64 2, .int .i64 (n : Int), .int .i64 AT] 66)).alloc (.cells #[.bool false, .int .i64 4, .int .i64 0, .int .i64 0] 66)
              have hO2 := ((hO.alloc (.cells #[.int .i64 0, .int .i64 0, .int .i64 0] 65)).alloc (.cells #[.bool false, .int .i64 2, .int .i64 (n : Int), .int .i64 AT] 66)).alloc (.cells #[.bool false, .int .i64 4, .int .i64 0, .int .i64 0] 66)
              have hba := hb.alloc hb.size (.cells #[.int .i64 0, .int .i64 0, .int .i64 0] 65)
              have hbb := hba.alloc hba.size (.cells #[.bool false, .int .i64 2, .int .i64 (n : Int), .int .i64 AT] 66)
              have hb2 := hbb.alloc hbb.size (.cells #[.bool false, .int .i64 4, .int .i64 0, .int .i64 0] 66)
              have hW2 := ((Blk.new wr 65 #[.int .i64 0, .int .i64 0, .int .i64 0]).alloc (.cells #[.bool false, .int .i64 2, .int .i64 (n : Int), .int .i64 AT] 66)).alloc (.cells #[.bool false, .int .i64 4, .int .i64 0, .int .i64 0] 66)
              have x0 := (hX2.cell 0).trans rfl
              have x1 := (hX2.cell 1).trans rfl
              have x2 := (hX2.cell 2).trans rfl
              have x3 := (hX2.cell 3).trans rfl
              have HH := Lib.hid (And.intro hX2 (And.intro hrA2 (And.intro hrB2 (And.intro hrC2 (And.intro hO2 (And.intro hb2 hW2))))))
              clear cx hX hrA hrB hrC hO hb hX2 hrA2 hrB2 hrC2 hO2 hba hbb hb2 hW2
              go_wp2_with fail
              refine wp_loop_rounds 3 ?_
              rw [rounds_succ]
              go_wp2_with fail
              rw [rounds_succ]
              go_wp2_with fail
              rw [rounds_succ]
              go_wp2_with fail
              refine (CX.out _ HH.out.2.2.2.2.2.1).mono ?_
              rintro e W3 ⟨rfl, hc⟩
              obtain ⟨hX2, hrA2, hrB2, hrC2, hO2, hb2, hW2⟩ := HH.out
              have hX3 := (hX2.below hc hX2.lt).alloc (.cells #[.int .i64 0, .int .i64 0, .int .i64 0] 65)
              have hrA3 := (hrA2.below hc hrA2.lt).alloc (.cells #[.int .i64 0, .int .i64 0, .int .i64 0] 65)
              have hrB3 := (hrB2.below hc hrB2.lt).alloc (.cells #[.int .i64 0, .int .i64 0, .int .i64 0] 65)
              have hrC3 := (hrC2.below hc hrC2.lt).alloc (.cells #[.int .i64 0, .int .i64 0, .int .i64 0] 65)
              have hO3 := (hO2.below hc hO2.lt).alloc (.cells #[.int .i64 0, .int .i64 0, .int .i64 0] 65)
              have hW3 := (hW2.below hc hW2.lt).alloc (.cells #[.int .i64 0, .int .i64 0, .int .i64 0] 65)
              have hb3 := (hb2.trans (hc.mono hb2.size)).alloc (Nat.le_trans hb2.size hc.size) (.cells #[.int .i64 0, .int .i64 0, .int .i64 0] 65)
              have hQ3 := Blk.new W3 65 #[.int .i64 0, .int .i64 0, .int .i64 0]
              have w0 := (hW3.cell 0).trans rfl
              have w1 := (hW3.cell 1).trans rfl
              have w2 := (hW3.cell 2).trans rfl
              have HG := Lib.hid (And.intro hX3 (And.intro hrA3 (And.intro hrB3 (And.intro hrC3 (And.intro hO3 hb3)))))
              clear HH CX hX2 hrA2 hrB2 hrC2 hO2 hb2 hW2 hX3 hrA3 hrB3 hrC3 hO3 hb3 hW3 hQ3 hc co x0 x1 x2 x3 c0 c1 c2 c3 c4 c5 c6 c7
              go_wp2_with fail
              go_roundw
              case rel => exact ⟨2, by omega, by go_num, HG.out⟩
              case measure => simp [intOf]
            · skip
              have CX : Hid (∀ W, Below W1.heap.size W1 W → Calls Tryd.prog 27 #[.agg #[.slice s.rA NR s.rc, .slice s.zA NZ s.zc, .slice s.kA NK s.kc, .slice s.hA NH s.hc], .int .i64 2] W fun e w' => e = .returned (.tuple #[.agg #[.int .i64 4, .int .i64 0, .int .i64 0], .int .i64 17]) ∧ Below W.heap.size W w') := Lib.hid fun W h => by
                have q := cx W h
                simp only [if_true, if_false, Bool.false_eq_true] at q
                exact q
              have c0 := ((hrB.alloc (.cells #[.int .i64 0, .int .i64 0, .int .i64 0] 65)).cell 0).trans rfl
              have c1 := ((hrB.alloc (.cells #[.int .i64 0, .int .i64 0, .int .i64 0] 65)).cell 1).trans rfl
              have c2 := ((hrB.alloc (.cells #[.int .i64 0, .int .i64 0, .int .i64 0] 65)).cell 2).trans rfl
              have c3 := ((hrB.alloc (.cells #[.int .i64 0, .int .i64 0, .int .i64 0] 65)).cell 3).trans rfl
              have c4 := (((hrB.alloc (.cells #[.int .i64 0, .int .i64 0, .int .i64 0] 65)).alloc (.cells #[.bool false, .int .i64 2, .int .i64 (n : Int), .int .i64 AT] 66)).cell 4).trans rfl
              have c5 := (((hrB.alloc (.cells #[.int .i64 0, .int .i64 0, .int .i64 0] 65)).alloc (.cells #[.bool false, .int .i64 2, .int .i64 (n : Int), .int .i64 AT] 66)).cell 5).trans rfl
              have c6 := (((hrB.alloc (.cells #[.int .i64 0, .int .i64 0, .int .i64 0] 65)).alloc (.cells #[.bool false, .int .i64 2, .int .i64 (n : Int), .int .i64 AT] 66)).cell 6).trans rfl
              have c7 := (((hrB.alloc (.cells #[.int .i64 0, .int .i64 0, .int .i64 0] 65)).alloc (.cells #[.bool false, .int .i64 2, .int .i64 (n : Int), .int .i64 AT] 66)).cell 7).trans rfl
              have co := (hO.cell 1).trans rfl
              have hX2 := ((hX.alloc (.cells #[.int .i64 4, .int .i64 0, .int .i64 0] 65)).alloc (.cells #[.bool false, .int .i64 2, .int .i64 (n : Int), .int .i64 AT] 66)).alloc (.cells #[.bool true, .int .i64 4, .int .i64 0, .int .i64 0] 66)
              have hrA2 := ((hrA.alloc (.cells #[.int .i64 4, .int .i64 0, .int .i64 0] 65)).alloc (.cells #[.bool false, .int .i64 2, .int .i64 (n : Int), .int .i64 AT] 66)).alloc (.cells #[.bool true, .int .i64 4, .int .i64 0, .int .i64 0] 66)
              have hrB2 := ((hrB.alloc (.cells #[.int .i64 4, .int .i64 0, .int .i64 0] 65)).alloc (.cells #[.bool false, .int .i64 2, .int .i64 (n : Int), .int .i64 AT] 66)).alloc (.cells #[.bool true, .int .i64 4, .int .i64 0, .int .i64 0] 66)
              have hrC2 := ((hrC.alloc (.cells #[.int .i64 4, .int .i64 0, .int .i64 0] 65)).alloc (.cells #[.bool false, .int .i64 2, .int .i64 (n : Int), .int .i64 AT] 66)).alloc (.cells #[.bool true, .int .i64 4, .int .i64 0, .int .i64 0] 66)
              have hO2 := ((hO.alloc (.cells #[.int .i64 4, .int .i64 0, .int .i64 0] 65)).alloc (.cells #[.bool false, .int .i64 2, .int .i64 (n : Int), .int .i64 AT] 66)).alloc (.cells #[.bool true, .int .i64 4, .int .i64 0, .int .i64 0] 66)
              have hba := hb.alloc hb.size (.cells #[.int .i64 4, .int .i64 0, .int .i64 0] 65)
              have hbb := hba.alloc hba.size (.cells #[.bool false, .int .i64 2, .int .i64 (n : Int), .int .i64 AT] 66)
              have hb2 := hbb.alloc hbb.size (.cells #[.bool true, .int .i64 4, .int .i64 0, .int .i64 0] 66)
              have hW2 := ((Blk.new wr 65 #[.int .i64 4, .int .i64 0, .int .i64 0]).alloc (.cells #[.bool false, .int .i64 2, .int .i64 (n : Int), .int .i64 AT] 66)).alloc (.cells #[.bool true, .int .i64 4, .int .i64 0, .int .i64 0] 66)
              have x0 := (hX2.cell 0).trans rfl
              have x1 := (hX2.cell 1).trans rfl
              have x2 := (hX2.cell 2).trans rfl
              have x3 := (hX2.cell 3).trans rfl
              have HH := Lib.hid (And.intro hX2 (And.intro hrA2 (And.intro hrB2 (And.intro hrC2 (And.intro hO2 (And.intro hb2 hW2))))))
              clear cx hX hrA hrB hrC hO hb hX2 hrA2 hrB2 hrC2 hO2 hba hbb hb2 hW2
              go_wp2_with fail
              refine wp_loop_rounds 3 ?_
              rw [rounds_succ]
              go_wp2_with fail
              rw [rounds_succ]
              go_wp2_with fail
              rw [rounds_succ]
              go_wp2_with fail
              refine (CX.out _ HH.out.2.2.2.2.2.1).mono ?_
              rintro e W3 ⟨rfl, hc⟩
              obtain ⟨hX2, hrA2, hrB2, hrC2, hO2, hb2, hW2⟩ := HH.out
              have hX3 := (hX2.below hc hX2.lt).alloc (.cells #[.int .i64 4, .int .i64 0, .int .i64 0] 65)
              have hrA3 := (hrA2.below hc hrA2.lt).alloc (.cells #[.int .i64 4, .int .i64 0, .int .i64 0] 65)
              have hrB3 := (hrB2.below hc hrB2.lt).alloc (.cells #[.int .i64 4, .int .i64 0, .int .i64 0] 65)
              have hrC3 := (hrC2.below hc hrC2.lt).alloc (.cells #[.int .i64 4, .int .i64 0, .int .i64 0] 65)
              have hO3 := (hO2.below hc hO2.lt).alloc (.cells #[.int .i64 4, .int .i64 0, .int .i64 0] 65)
              have hW3 := (hW2.below hc hW2.lt).alloc (.cells #[.int .i64 4, .int .i64 0, .int .i64 0] 65)
              have hb3 := (hb2.trans (hc.mono hb2.size)).alloc (Nat.le_trans hb2.size hc.size) (.cells #[.int .i64 4, .int .i64 0, .int .i64 0] 65)
              have hQ3 := Blk.new W3 65 #[.int .i64 4, .int .i64 0, .int .i64 0]
              have w0 := (hW3.cell 0).trans rfl
              have w1 := (hW3.cell 1).trans rfl
              have w2 := (hW3.cell 2).trans rfl
              have HG := Lib.hid (And.intro hX3 (And.intro hrA3 (And.intro hrB3 (And.intro hrC3 (And.intro hO3 hb3)))))
              clear HH CX hX2 hrA2 hrB2 hrC2 hO2 hb2 hW2 hX3 hrA3 hrB3 hrC3 hO3 hb3 hW3 hQ3 hc co x0 x1 x2 x3 c0 c1 c2 c3 c4 c5 c6 c7
              go_wp2_with fail
              go_roundw
              case rel => exact ⟨2, by omega, by go_num, HG.out⟩
              case measure => simp [intOf]
            · skip
              have hat2 := hat rfl
              have CX : Hid (∀ W, Below W1.heap.size W1 W → Calls Tryd.prog 27 #[.agg #[.slice s.rA NR s.rc, .slice s.zA NZ s.zc, .slice s.kA NK s.kc, .slice s.hA NH s.hc], .int .i64 2] W fun e w' => e = .returned (.tuple #[.agg #[.int .i64 2, .int .i64 (n : Int), .int .i64 AT], .int .i64 17]) ∧ Below W.heap.size W w') := Lib.hid fun W h => by
                have q := cx W h
                simp only [if_true, if_false, hat2, Bool.false_eq_true] at q
                exact q
              have c0 := ((hrB.alloc (.cells #[.int .i64 0, .int .i64 0, .int .i64 0] 65)).cell 0).trans rfl
              have c1 := ((hrB.alloc (.cells #[.int .i64 0, .int .i64 0, .int .i64 0] 65)).cell 1).trans rfl
              have c2 := ((hrB.alloc (.cells #[.int .i64 0, .int .i64 0, .int .i64 0] 65)).cell 2).trans rfl
              have c3 := ((hrB.alloc (.cells #[.int .i64 0, .int .i64 0, .int .i64 0] 65)).cell 3).trans rfl
              have c4 := (((hrB.alloc (.cells #[.int .i64 2, .int .i64 (n : Int), .int .i64 AT] 65)).alloc (.cells #[.bool true, .int .i64 2, .int .i64 (n : Int), .int .i64 AT] 66)).cell 4).trans rfl
              have c5 := (((hrB.alloc (.cells #[.int .i64 2, .int .i64 (n : Int), .int .i64 AT] 65)).alloc (.cells #[.bool true, .int .i64 2, .int .i64 (n : Int), .int .i64 AT] 66)).cell 5).trans rfl
              have c6 := (((hrB.alloc (.cells #[.int .i64 2, .int .i64 (n : Int), .int .i64 AT] 65)).alloc (.cells #[.bool true, .int .i64 2, .int .i64 (n : Int), .int .i64 AT] 66)).cell 6).trans rfl
              have c7 := (((hrB.alloc (.cells #[.int .i64 2, .int .i64 (n : Int), .int .i64 AT] 65)).alloc (.cells #[.bool true, .int .i64 2, .int .i64 (n : Int), .int .i64 AT] 66)).cell 7).trans rfl
              have co := (hO.cell 1).trans rfl
              have hX2 := ((hX.alloc (.cells #[.int .i64 2, .int .i64 (n : Int), .int .i64 AT] 65)).alloc (.cells #[.bool true, .int .i64 2, .int .i64 (n : Int), .int .i64 AT] 66)).alloc (.cells #[.bool false, .int .i64 4, .int .i64 0, .int .i64 0] 66)
              have hrA2 := ((hrA.alloc (.cells #[.int .i64 2, .int .i64 (n : Int), .int .i64 AT] 65)).alloc (.cells #[.bool true, .int .i64 2, .int .i64 (n : Int), .int .i64 AT] 66)).alloc (.cells #[.bool false, .int .i64 4, .int .i64 0, .int .i64 0] 66)
              have hrB2 := ((hrB.alloc (.cells #[.int .i64 2, .int .i64 (n : Int), .int .i64 AT] 65)).alloc (.cells #[.bool true, .int .i64 2, .int .i64 (n : Int), .int .i64 AT] 66)).alloc (.cells #[.bool false, .int .i64 4, .int .i64 0, .int .i64 0] 66)
              have hrC2 := ((hrC.alloc (.cells #[.int .i64 2, .int .i64 (n : Int), .int .i64 AT] 65)).alloc (.cells #[.bool true, .int .i64 2, .int .i64 (n : Int), .int .i64 AT] 66)).alloc (.cells #[.bool false, .int .i64 4, .int .i64 0, .int .i64 0] 66)
              have hO2 := ((hO.alloc (.cells #[.int .i64 2, .int .i64 (n : Int), .int .i64 AT] 65)).alloc (.cells #[.bool true, .int .i64 2, .int .i64 (n : Int), .int .i64 AT] 66)).alloc (.cells #[.bool false, .int .i64 4, .int .i64 0, .int .i64 0] 66)
              have hba := hb.alloc hb.size (.cells #[.int .i64 2, .int .i64 (n : Int), .int .i64 AT] 65)
              have hbb := hba.alloc hba.size (.cells #[.bool true, .int .i64 2, .int .i64 (n : Int), .int .i64 AT] 66)
              have hb2 := hbb.alloc hbb.size (.cells #[.bool false, .int .i64 4, .int .i64 0, .int .i64 0] 66)
              have hW2 := ((Blk.new wr 65 #[.int .i64 2, .int .i64 (n : Int), .int .i64 AT]).alloc (.cells #[.bool true, .int .i64 2, .int .i64 (n : Int), .int .i64 AT] 66)).alloc (.cells #[.bool false, .int .i64 4, .int .i64 0, .int .i64 0] 66)
              have x0 := (hX2.cell 0).trans rfl
              have x1 := (hX2.cell 1).trans rfl
              have x2 := (hX2.cell 2).trans rfl
              have x3 := (hX2.cell 3).trans rfl
              have HH := Lib.hid (And.intro hX2 (And.intro hrA2 (And.intro hrB2 (And.intro hrC2 (And.intro hO2 (And.intro hb2 hW2))))))
              clear cx hX hrA hrB hrC hO hb hX2 hrA2 hrB2 hrC2 hO2 hba hbb hb2 hW2
              go_wp2_with fail
              refine wp_loop_rounds 3 ?_
              rw [rounds_succ]
              go_wp2_with fail
              rw [rounds_succ]
              go_wp2_with fail
              rw [rounds_succ]
              go_wp2_with fail
              refine (CX.out _ HH.out.2.2.2.2.2.1).mono ?_
              rintro e W3 ⟨rfl, hc⟩
              obtain ⟨hX2, hrA2, hrB2, hrC2, hO2, hb2, hW2⟩ := HH.out
              have hX3 := (hX2.below hc hX2.lt).alloc (.cells #[.int .i64 2, .int .i64 (n : Int), .int .i64 AT] 65)
              have hrA3 := (hrA2.below hc hrA2.lt).alloc (.cells #[.int .i64 2, .int .i64 (n : Int), .int .i64 AT] 65)
              have hrB3 := (hrB2.below hc hrB2.lt).alloc (.cells #[.int .i64 2, .int .i64 (n : Int), .int .i64 AT] 65)
              have hrC3 := (hrC2.below hc hrC2.lt).alloc (.cells #[.int .i64 2, .int .i64 (n : Int), .int .i64 AT] 65)
              have hO3 := (hO2.below hc hO2.lt).alloc (.cells #[.int .i64 2, .int .i64 (n : Int), .int .i64 AT] 65)
              have hW3 := (hW2.below hc hW2.lt).alloc (.cells #[.int .i64 2, .int .i64 (n : Int), .int .i64 AT] 65)
              have hb3 := (hb2.trans (hc.mono hb2.size)).alloc (Nat.le_trans hb2.size hc.size) (.cells #[.int .i64 2, .int .i64 (n : Int), .int .i64 AT] 65)
              have hQ3 := Blk.new W3 65 #[.int .i64 2, .int .i64 (n : Int), .int .i64 AT]
              have w0 := (hW3.cell 0).trans rfl
              have w1 := (hW3.cell 1).trans rfl
              have w2 := (hW3.cell 2).trans rfl
              have HG := Lib.hid (And.intro hX3 (And.intro hrA3 (And.intro hrB3 (And.intro hrC3 (And.intro hO3 hb3)))))
              clear HH CX hX2 hrA2 hrB2 hrC2 hO2 hb2 hW2 hX3 hrA3 hrB3 hrC3 hO3 hb3 hW3 hQ3 hc co x0 x1 x2 x3 c0 c1 c2 c3 c4 c5 c6 c7
              go_wp2_with fail
              go_roundw
              case rel => exact ⟨2, by omega, by go_num, HG.out⟩
              case measure => simp [intOf]
            · skip
              have hat2 := hat rfl
              have CX : Hid (∀ W, Below W1.heap.size W1 W → Calls Tryd.prog 27 #[.agg #[.slice s.rA NR s.rc, .slice s.zA NZ s.zc, .slice s.kA NK s.kc, .slice s.hA NH s.hc], .int .i64 2] W fun e w' => e = .returned (.tuple #[.agg #[.int .i64 2, .int .i64 (n : Int), .int .i64 AT], .int .i64 17]) ∧ Below W.heap.size W w') := Lib.hid fun W h => by
                have q := cx W h
                simp only [if_true, hat2] at q
                exact q
              have c0 := ((hrB.alloc (.cells #[.int .i64 0, .int .i64 0, .int .i64 0] 65)).cell 0).trans rfl
              have c1 := ((hrB.alloc (.cells #[.int .i64 0, .int .i64 0, .int .i64 0] 65)).cell 1).trans rfl
              have c2 := ((hrB.alloc (.cells #[.int .i64 0, .int .i64 0, .int .i64 0] 65)).cell 2).trans rfl
              have c3 := ((hrB.alloc (.cells #[.int .i64 0, .int .i64 0, .int .i64 0] 65)).cell 3).trans rfl
              have c4 := (((hrB.alloc (.cells #[.int .i64 2, .int .i64 (n : Int), .int .i64 AT] 65)).alloc (.cells #[.bool true, .int .i64 2, .int .i64 (n : Int), .int .i64 AT] 66)).cell 4).trans rfl
              have c5 := (((hrB.alloc (.cells #[.int .i64 2, .int .i64 (n : Int), .int .i64 AT] 65)).alloc (.cells #[.bool true, .int .i64 2, .int .i64 (n : Int), .int .i64 AT] 66)).cell 5).trans rfl
              have c6 := (((hrB.alloc (.cells #[.int .i64 2, .int .i64 (n : Int), .int .i64 AT] 65)).alloc (.cells #[.bool true, .int .i64 2, .int .i64 (n : Int), .int .i64 AT] 66)).cell 6).trans rfl
              have c7 := (((hrB.alloc (.cells #[.int .i64 2, .int .i64 (n : Int), .int .i64 AT] 65)).alloc (.cells #[.bool true, .int .i64 2, .int .i64 (n : Int), .int .i64 AT] 66)).cell 7).trans rfl
              have co := (hO.cell 1).trans rfl
              have hX2 := ((hX.alloc (.cells #[.int .i64 2, .int .i64 (n : Int), .int .i64 AT] 65)).alloc (.cells #[.bool true, .int .i64 2, .int .i64 (n : Int), .int .i64 AT] 66)).alloc (.cells #[.bool true, .int .i64 4, .int .i64 0, .int .i64 0] 66)
              have hrA2 := ((hrA.alloc (.cells #[.int .i64 2, .int .i64 (n : Int), .int .i64 AT] 65)).alloc (.cells #[.bool true, .int .i64 2, .int .i64 (n : Int), .int .i64 AT] 66)).alloc (.cells #[.bool true, .int .i64 4, .int .i64 0, .int .i64 0] 66)
              have hrB2 := ((hrB.alloc (.cells #[.int .i64 2, .int .i64 (n : Int), .int .i64 AT] 65)).alloc (.cells #[.bool true, .int .i64 2, .int .i64 (n : Int), .int .i64 AT] 66)).alloc (.cells #[.bool true, .int .i64 4, .int .i64 0, .int .i64 0] 66)
              have hrC2 := ((hrC.alloc (.cells #[.int .i64 2, .int .i64 (n : Int), .int .i64 AT] 65)).alloc (.cells #[.bool true, .int .i64 2, .int .i64 (n : Int), .int .i64 AT] 66)).alloc (.cells #[.bool true, .int .i64 4, .int .i64 0, .int .i64 0] 66)
              have hO2 := ((hO.alloc (.cells #[.int .i64 2, .int .i64 (n : Int), .int .i64 AT] 65)).alloc (.cells #[.bool true, .int .i64 2, .int .i64 (n : Int), .int .i64 AT] 66)).alloc (.cells #[.bool true, .int .i64 4, .int .i64 0, .int .i64 0] 66)
              have hba := hb.alloc hb.size (.cells #[.int .i64 2, .int .i64 (n : Int), .int .i64 AT] 65)
              have hbb := hba.alloc hba.size (.cells #[.bool true, .int .i64 2, .int .i64 (n : Int), .int .i64 AT] 66)
              have hb2 := hbb.alloc hbb.size (.cells #[.bool true, .int .i64 4, .int .i64 0, .int .i64 0] 66)
              have hW2 := ((Blk.new wr 65 #[.int .i64 2, .int .i64 (n : Int), .int .i64 AT]).alloc (.cells #[.bool true, .int .i64 2, .int .i64 (n : Int), .int .i64 AT] 66)).alloc (.cells #[.bool true, .int .i64 4, .int .i64 0, .int .i64 0] 66)
              have x0 := (hX2.cell 0).trans rfl
              have x1 := (hX2.cell 1).trans rfl
              have x2 := (hX2.cell 2).trans rfl
              have x3 := (hX2.cell 3).trans rfl
              have HH := Lib.hid (And.intro hX2 (And.intro hrA2 (And.intro hrB2 (And.intro hrC2 (And.intro hO2 (And.intro hb2 hW2))))))
              clear cx hX hrA hrB hrC hO hb hX2 hrA2 hrB2 hrC2 hO2 hba hbb hb2 hW2
              go_wp2_with fail
              refine wp_loop_rounds 3 ?_
              rw [rounds_succ]
              go_wp2_with fail
              rw [rounds_succ]
              go_wp2_with fail
              rw [rounds_succ]
              go_wp2_with fail
              refine (CX.out _ HH.out.2.2.2.2.2.1).mono ?_
              rintro e W3 ⟨rfl, hc⟩
              obtain ⟨hX2, hrA2, hrB2, hrC2, hO2, hb2, hW2⟩ := HH.out
              have hX3 := (hX2.below hc hX2.lt).alloc (.cells #[.int .i64 2, .int .i64 (n : Int), .int .i64 AT] 65)
              have hrA3 := (hrA2.below hc hrA2.lt).alloc (.cells #[.int .i64 2, .int .i64 (n : Int), .int .i64 AT] 65)
              have hrB3 := (hrB2.below hc hrB2.lt).alloc (.cells #[.int .i64 2, .int .i64 (n : Int), .int .i64 AT] 65)
              have hrC3 := (hrC2.below hc hrC2.lt).alloc (.cells #[.int .i64 2, .int .i64 (n : Int), .int .i64 AT] 65)
              have hO3 := (hO2.below hc hO2.lt).alloc (.cells #[.int .i64 2, .int .i64 (n : Int), .int .i64 AT] 65)
              have hW3 := (hW2.below hc hW2.lt).alloc (.cells #[.int .i64 2, .int .i64 (n : Int), .int .i64 AT] 65)
              have hb3 := (hb2.trans (hc.mono hb2.size)).alloc (Nat.le_trans hb2.size hc.size) (.cells #[.int .i64 2, .int .i64 (n : Int), .int .i64 AT] 65)
              have hQ3 := Blk.new W3 65 #[.int .i64 2, .int .i64 (n : Int), .int .i64 AT]
              have w0 := (hW3.cell 0).trans rfl
              have w1 := (hW3.cell 1).trans rfl
              have w2 := (hW3.cell 2).trans rfl
              have HG := Lib.hid (And.intro hX3 (And.intro hrA3 (And.intro hrB3 (And.intro hrC3 (And.intro hO3 hb3)))))
              clear HH CX hX2 hrA2 hrB2 hrC2 hO2 hb2 hW2 hX3 hrA3 hrB3 hrC3 hO3 hb3 hW3 hQ3 hc co x0 x1 x2 x3 c0 c1 c2 c3 c4 c5 c6 c7
              go_wp2_with fail
              go_roundw
              case rel => exact ⟨2, by omega, by go_num, HG.out⟩
              case measure => simp [intOf]
          · have cx := cC.out 3
            rw [hp3] at cx
            clear hp1 hp2 hp3 cC
            have hat : c = true → (if b = true then (n : Int) + 1 else n) = AT := fun hc => by rw [← hAT]; unfold at24; subst hc; simp
            cases a <;> cases c
            · skip
              have CX : Hid (∀ W, Below W1.heap.size W1 W → Calls Tryd.prog 27 #[.agg #[.slice s.rA NR s.rc, .slice s.zA NZ s.zc, .slice s.kA NK s.kc, .slice s.hA NH s.hc], .int .i64 3] W fun e w' => e = .returned (.tuple #[.agg #[.int .i64 0, .int .i64 0, .int .i64 0], .int .i64 0]) ∧ Below W.heap.size W w') := Lib.hid fun W h => by
                have q := cx W h
                simp only [if_false, Bool.false_eq_true] at q
                exact q
              have c0 := ((hrC.alloc (.cells #[.int .i64 0, .int .i64 0, .int .i64 0] 65)).cell 0).trans rfl
              have c1 := ((hrC.alloc (.cells #[.int .i64 0, .int .i64 0, .int .i64 0] 65)).cell 1).trans rfl
              have c2 := ((hrC.alloc (.cells #[.int .i64 0, .int .i64 0, .int .i64 0] 65)).cell 2).trans rfl
              have c3 := ((hrC.alloc (.cells #[.int .i64 0, .int .i64 0, .int .i64 0] 65)).cell 3).trans rfl
              have c4 := (((hrC.alloc (.cells #[.int .i64 0, .int .i64 0, .int .i64 0] 65)).alloc (.cells #[.bool false, .int .i64 1, .int .i64 (n : Int), .int .i64 0] 66)).cell 4).trans rfl
              have c5 := (((hrC.alloc (.cells #[.int .i64 0, .int .i64 0, .int .i64 0] 65)).alloc (.cells #[.bool false, .int .i64 1, .int .i64 (n : Int), .int .i64 0] 66)).cell 5).trans rfl
              have c6 := (((hrC.alloc (.cells #[.int .i64 0, .int .i64 0, .int .i64 0] 65)).alloc (.cells #[.bool false, .int .i64 1, .int .i64 (n : Int), .int .i64 0] 66)).cell 6).trans rfl
              have c7 := (((hrC.alloc (.cells #[.int .i64 0, .int .i64 0, .int .i64 0] 65)).alloc (.cells #[.bool false, .int .i64 1, .int .i64 (n : Int), .int .i64 0] 66)).cell 7).trans rfl
              have co := (hO.cell 2).trans rfl
              have hX2 := ((hX.alloc (.cells #[.int .i64 0, .int .i64 0, .int .i64 0] 65)).alloc (.cells #[.bool false, .int .i64 1, .int .i64 (n : Int), .int .i64 0] 66)).alloc (.cells #[.bool false, .int .i64 2, .int .i64 (n : Int), .int .i64 AT] 66)
              have hrA2 := ((hrA.alloc (.cells #[.int .i64 0, .int .i64 0, .int .i64 0] 65)).alloc (.cells #[.bool false, .int .i64 1, .int .i64 (n : Int), .int .i64 0] 66)).alloc (.cells #[.bool false, .int .i64 2, .int .i64 (n : Int), .int .i64 AT] 66)
              have hrB2 := ((hrB.alloc (.cells #[.int .i64 0, .int .i64 0, .int .i64 0] 65)).alloc (.cells #[.bool false, .int .i64 1, .int .i64 (n : Int), .int .i64 0] 66)).alloc (.cells #[.bool false, .int .i64 2, .int .i64 (n : Int), .int .i64 AT] 66)
              have hrC2 := ((hrC.alloc (.cells #[.int .i64 0, .int .i64 0, .int .i64 0] 65)).alloc (.cells #[.bool false, .int .i64 1, .int .i64 (n : Int), .int .i64 0] 66)).alloc (.cells #[.bool false, .int .i64 2, .int .i64 (n : Int), .int .i64 AT] 66)
              have hO2 := ((hO.alloc (.cells #[.int .i64 0, .int .i64 0, .int .i64 0] 65)).alloc (.cells #[.bool false, .int .i64 1, .int .i64 (n : Int), .int .i64 0] 66)).alloc (.cells #[.bool false, .int .i64 2, .int .i64 (n : Int), .int .i64 AT] 66)
              have hba := hb.alloc hb.size (.cells #[.int .i64 0, .int .i64 0, .int .i64 0] 65)
              have hbb := hba.alloc hba.size (.cells #[.bool false, .int .i64 1, .int .i64 (n : Int), .int .i64 0] 66)
              have hb2 := hbb.alloc hbb.size (.cells #[.bool false, .int .i64 2, .int .i64 (n : Int), .int .i64 AT] 66)
              have hW2 := ((Blk.new wr 65 #[.int .i64 0, .int .i64 0, .int .i64 0]).alloc (.cells #[.bool false, .int .i64 1, .int .i64 (n : Int), .int .i64 0] 66)).alloc (.cells #[.bool false, .int .i64 2, .int .i64 (n : Int), .int .i64 AT] 66)
              have x0 := (hX2.cell 0).trans rfl
              have x1 := (hX2.cell 1).trans rfl
              have x2 := (hX2.cell 2).trans rfl
              have x3 := (hX2.cell 3).trans rfl
              have HH := Lib.hid (And.intro hX2 (And.intro hrA2 (And.intro hrB2 (And.intro hrC2 (And.intro hO2 (And.intro hb2 hW2))))))
              clear cx hX hrA hrB hrC hO hb hX2 hrA2 hrB2 hrC2 hO2 hba hbb hb2 hW2
              go_wp2_with fail
              refine wp_loop_rounds 3 ?_
              rw [rounds_succ]
              go_wp2_with fail
              rw [rounds_succ]
              go_wp2_with fail
              rw [rounds_succ]
              go_wp2_with fail
              refine (CX.out _ HH.out.2.2.2.2.2.1).mono ?_
              rintro e W3 ⟨rfl, hc⟩
              obtain ⟨hX2, hrA2, hrB2, hrC2, hO2, hb2, hW2⟩ := HH.out
              have hX3 := (hX2.below hc hX2.lt).alloc (.cells #[.int .i64 0, .int .i64 0, .int .i64 0] 65)
              have hrA3 := (hrA2.below hc hrA2.lt).alloc (.cells #[.int .i64 0, .int .i64 0, .int .i64 0] 65)
              have hrB3 := (hrB2.below hc hrB2.lt).alloc (.cells #[.int .i64 0, .int .i64 0, .int .i64 0] 65)
              have hrC3 := (hrC2.below hc hrC2.lt).alloc (.cells #[.int .i64 0, .int .i64 0, .int .i64 0] 65)
              have hO3 := (hO2.below hc hO2.lt).alloc (.cells #[.int .i64 0, .int .i64 0, .int .i64 0] 65)
              have hW3 := (hW2.below hc hW2.lt).alloc (.cells #[.int .i64 0, .int .i64 0, .int .i64 0] 65)
              have hb3 := (hb2.trans (hc.mono hb2.size)).alloc (Nat.le_trans hb2.size hc.size) (.cells #[.int .i64 0, .int .i64 0, .int .i64 0] 65)
              have hQ3 := Blk.new W3 65 #[.int .i64 0, .int .i64 0, .int .i64 0]
              have w0 := (hW3.cell 0).trans rfl
              have w1 := (hW3.cell 1).trans rfl
              have w2 := (hW3.cell 2).trans rfl
              have HG := Lib.hid (And.intro hX3 (And.intro hrA3 (And.intro hrB3 (And.intro hrC3 (And.intro hO3 hb3)))))
              clear HH CX hX2 hrA2 hrB2 hrC2 hO2 hb2 hW2 hX3 hrA3 hrB3 hrC3 hO3 hb3 hW3 hQ3 hc co x0 x1 x2 x3 c0 c1 c2 c3 c4 c5 c6 c7
              go_wp2_with fail
              go_roundw
              case rel => exact ⟨3, by omega, by go_num, HG.out⟩
              case measure => simp [intOf]
            · skip
              have hat2 := hat rfl
              have CX : Hid (∀ W, Below W1.heap.size W1 W → Calls Tryd.prog 27 #[.agg #[.slice s.rA NR s.rc, .slice s.zA NZ s.zc, .slice s.kA NK s.kc, .slice s.hA NH s.hc], .int .i64 3] W fun e w' => e = .returned (.tuple #[.agg #[.int .i64 2, .int .i64 (n : Int), .int .i64 AT], .int .i64 17]) ∧ Below W.heap.size W w') := Lib.hid fun W h => by
                have q := cx W h
                simp only [if_true, if_false, hat2, Bool.false_eq_true] at q
                exact q
              have c0 := ((hrC.alloc (.cells #[.int .i64 0, .int .i64 0, .int .i64 0] 65)).cell 0).trans rfl
              have c1 := ((hrC.alloc (.cells #[.int .i64 0, .int .i64 0, .int .i64 0] 65)).cell 1).trans rfl
              have c2 := ((hrC.alloc (.cells #[.int .i64 0, .int .i64 0, .int .i64 0] 65)).cell 2).trans rfl
              have c3 := ((hrC.alloc (.cells #[.int .i64 0, .int .i64 0, .int .i64 0] 65)).cell 3).trans rfl
              have c4 := (((hrC.alloc (.cells #[.int .i64 0, .int .i64 0, .int .i64 0] 65)).alloc (.cells #[.bool false, .int .i64 1, .int .i64 (n : Int), .int .i64 0] 66)).cell 4).trans rfl
              have c5 := (((hrC.alloc (.cells #[.int .i64 0, .int .i64 0, .int .i64 0] 65)).alloc (.cells #[.bool false, .int .i64 1, .int .i64 (n : Int), .int .i64 0] 66)).cell 5).trans rfl
              have c6 := (((hrC.alloc (.cells #[.int .i64 0, .int .i64 0, .int .i64 0] 65)).alloc (.cells #[.bool false, .int .i64 1, .int .i64 (n : Int), .int .i64 0] 66)).cell 6).trans rfl
              have c7 := (((hrC.alloc (.cells #[.int .i64 0, .int .i64 0, .int .i64 0] 65)).alloc (.cells #[.bool false, .int .i64 1, .int .i64 (n : Int), .int .i64 0] 66)).cell 7).trans rfl
              have co := (hO.cell 2).trans rfl
              have hX2 := ((hX.alloc (.cells #[.int .i64 2, .int .i64 (n : Int), .int .i64 AT] 65)).alloc (.cells #[.bool false, .int .i64 1, .int .i64 (n : Int), .int .i64 0] 66)).alloc (.cells #[.bool true, .int .i64 2, .int .i64 (n : Int), .int .i64 AT] 66)
              have hrA2 := ((hrA.alloc (.cells #[.int .i64 2, .int .i64 (n : Int), .int .i64 AT] 65)).alloc (.cells #[.bool false, .int .i64 1, .int .i64 (n : Int), .int .i64 0] 66)).alloc (.cells #[.bool true, .int .i64 2, .int .i64 (n : Int), .int .i64 AT] 66)
              have hrB2 := ((hrB.alloc (.cells #[.int .i64 2, .int .i64 (n : Int), .int .i64 AT] 65)).alloc (.cells #[.bool false, .int .i64 1, .int .i64 (n : Int), .int .i64 0] 66)).alloc (.cells #[.bool true, .int .i64 2, .int .i64 (n : Int), .int .i64 AT] 66)
              have hrC2 := ((hrC.alloc (.cells #[.int .i64 2, .int .i64 (n : Int), .int .i64 AT] 65)).alloc (.cells #[.bool false, .int .i64 1, .int .i64 (n : Int), .int .i64 0] 66)).alloc (.cells #[.bool true, .int .i64 2, .int .i64 (n : Int), .int .i64 AT] 66)
              have hO2 := ((hO.alloc (.cells #[.int .i64 2, .int .i64 (n : Int), .int .i64 AT] 65)).alloc (.cells #[.bool false, .int .i64 1, .int .i64 (n : Int), .int .i64 0] 66)).alloc (.cells #[.bool true, .int .i64 2, .int .i64 (n : Int), .int .i64 AT] 66)
              have hba := hb.alloc hb.size (.cells #[.int .i64 2, .int .i64 (n : Int), .int .i64 AT] 65)
              have hbb := hba.alloc hba.size (.cells #[.bool false, .int .i64 1, .int .i64 (n : Int), .int .i64 0] 66)
              have hb2 := hbb.alloc hbb.size (.cells #[.bool true, .int .i64 2, .int .i64 (n : Int), .int .i64 AT] 66)
              have hW2 := ((Blk.new wr 65 #[.int .i64 2, .int .i64 (n : Int), .int .i64 AT]).alloc (.cells #[.bool false, .int .i64 1, .int .i64 (n : Int), .int .i64 0] 66)).alloc (.cells #[.bool true, .int .i64 2, .int .i64 (n : Int), .int .i64 AT] 66)
              have x0 := (hX2.cell 0).trans rfl
              have x1 := (hX2.cell 1).trans rfl
              have x2 := (hX2.cell 2).trans rfl
              have x3 := (hX2.cell 3).trans rfl
              have HH := Lib.hid (And.intro hX2 (And.intro hrA2 (And.intro hrB2 (And.intro hrC2 (And.intro hO2 (And.intro hb2 hW2))))))
              clear cx hX hrA hrB hrC hO hb hX2 hrA2 hrB2 hrC2 hO2 hba hbb hb2 hW2
              go_wp2_with fail
              refine wp_loop_rounds 3 ?_
              rw [rounds_succ]
              go_wp2_with fail
              rw [rounds_succ]
              go_wp2_with fail
              rw [rounds_succ]
              go_wp2_with fail
              refine (CX.out _ HH.out.2.2.2.2.2.1).mono ?_
              rintro e W3 ⟨rfl, hc⟩
              obtain ⟨hX2, hrA2, hrB2, hrC2, hO2, hb2, hW2⟩ := HH.out
              have hX3 := (hX2.below hc hX2.lt).alloc (.cells #[.int .i64 2, .int .i64 (n : Int), .int .i64 AT] 65)
              have hrA3 := (hrA2.below hc hrA2.lt).alloc (.cells #[.int .i64 2, .int .i64 (n : Int), .int .i64 AT] 65)
              have hrB3 := (hrB2.below hc hrB2.lt).alloc (.cells #[.int .i64 2, .int .i64 (n : Int), .int .i64 AT] 65)
              have hrC3 := (hrC2.below hc hrC2.lt).alloc (.cells #[.int .i64 2, .int .i64 (n : Int), .int .i64 AT] 65)
              have hO3 := (hO2.below hc hO2.lt).alloc (.cells #[.int .i64 2, .int .i64 (n : Int), .int .i64 AT] 65)
              have hW3 := (hW2.below hc hW2.lt).alloc (.cells #[.int .i64 2, .int .i64 (n : Int), .int .i64 AT] 65)
              have hb3 := (hb2.trans (hc.mono hb2.size)).alloc (Nat.le_trans hb2.size hc.size) (.cells #[.int .i64 2, .int .i64 (n : Int), .int .i64 AT] 65)
              have hQ3 := Blk.new W3 65 #[.int .i64 2, .int .i64 (n : Int), .int .i64 AT]
              have w0 := (hW3.cell 0).trans rfl
              have w1 := (hW3.cell 1).trans rfl
              have w2 := (hW3.cell 2).trans rfl
              have HG := Lib.hid (And.intro hX3 (And.intro hrA3 (And.intro hrB3 (And.intro hrC3 (And.intro hO3 hb3)))))
              clear HH CX hX2 hrA2 hrB2 hrC2 hO2 hb2 hW2 hX3 hrA3 hrB3 hrC3 hO3 hb3 hW3 hQ3 hc co x0 x1 x2 x3 c0 c1 c2 c3 c4 c5 c6 c7
              go_wp2_with fail
              go_roundw
              case rel => exact ⟨3, by omega, by go_num, HG.out⟩
              case measure => simp [intOf]
            · skip
              have CX : Hid (∀ W, Below W1.heap.size W1 W → Calls Tryd.prog 27 #[.agg #[.slice s.rA NR s.rc, .slice s.zA NZ s.zc, .slice s.kA NK s.kc, .slice s.hA NH s.hc], .int .i64 3] W fun e w' => e = .returned (.tuple #[.agg #[.int .i64 1, .int .i64 (n : Int), .int .i64 0], .int .i64 17]) ∧ Below W.heap.size W w') := Lib.hid fun W h => by
                have q := cx W h
                simp only [if_true, if_false, Bool.false_eq_true] at q
                exact q
              have c0 := ((hrC.alloc (.cells #[.int .i64 0, .int .i64 0, .int .i64 0] 65)).cell 0).trans rfl
              have c1 := ((hrC.alloc (.cells #[.int .i64 0, .int .i64 0, .int .i64 0] 65)).cell 1).trans rfl
              have c2 := ((hrC.alloc (.cells #[.int .i64 0, .int .i64 0, .int .i64 0] 65)).cell 2).trans rfl
              have c3 := ((hrC.alloc (.cells #[.int .i64 0, .int .i64 0, .int .i64 0] 65)).cell 3).trans rfl
              have c4 := (((hrC.alloc (.cells #[.int .i64 1, .int .i64 (n : Int), .int .i64 0] 65)).alloc (.cells #[.bool true, .int .i64 1, .int .i64 (n : Int), .int .i64 0] 66)).cell 4).trans rfl
              have c5 := (((hrC.alloc (.cells #[.int .i64 1, .int .i64 (n : Int), .int .i64 0] 65)).alloc (.cells #[.bool true, .int .i64 1, .int .i64 (n : Int), .int .i64 0] 66)).cell 5).trans rfl
              have c6 := (((hrC.alloc (.cells #[.int .i64 1, .int .i64 (n : Int), .int .i64 0] 65)).alloc (.cells #[.bool true, .int .i64 1, .int .i64 (n : Int), .int .i64 0] 66)).cell 6).trans rfl
              have c7 := (((hrC.alloc (.cells #[.int .i64 1, .int .i64 (n : Int), .int .i64 0] 65)).alloc (.cells #[.bool true, .int .i64 1, .int .i64 (n : Int), .int .i64 0] 66)).cell 7).trans rfl
              have co := (hO.cell 2).trans rfl
              have hX2 := ((hX.alloc (.cells #[.int .i64 1, .int .i64 (n : Int), .int .i64 0] 65)).alloc (.cells #[.bool true, .int .i64 1, .int .i64 (n : Int), .int .i64 0] 66)).alloc (.cells #[.bool false, .int .i64 2, .int .i64 (n : Int), .int .i64 AT] 66)
              have hrA2 := ((hrA.alloc (.cells #[.int .i64 1, .int .i64 (n : Int), .int .i64 0] 65)).alloc (.cells #[.bool true, .int .i64 1, .int .i64 (n : Int), .int .i64 0] 66)).alloc (.cells #[.bool false, .int .i64 2, .int .i64 (n : Int), .int .i64 AT] 66)
              have hrB2 := ((hrB.alloc (.cells #[.int .i64 1, .int .i64 (n : Int), .int .i64 0] 65)).alloc (.cells #[.bool true, .int .i64 1, .int .i64 (n : Int), .int .i64 0] 66)).alloc (.cells #[.bool false, .int .i64 2, .int .i64 (n : Int), .int .i64 AT] 66)
              have hrC2 := ((hrC.alloc (.cells #[.int .i64 1, .int .i64 (n : Int), .int .i64 0] 65)).alloc (.cells #[.bool true, .int .i64 1, .int .i64 (n : Int), .int .i64 0] 66)).alloc (.cells #[.bool false, .int .i64 2, .int .i64 (n : Int), .int .i64 AT] 66)
              have hO2 := ((hO.alloc (.cells #[.int .i64 1, .int .i64 (n : Int), .int .i64 0] 65)).alloc (.cells #[.bool true, .int .i64 1, .int .i64 (n : Int), .int .i64 0] 66)).alloc (.cells #[.bool false, .int .i64 2, .int .i64 (n : Int), .int .i64 AT] 66)
              have hba := hb.alloc hb.size (.cells #[.int .i64 1, .int .i64 (n : Int), .int .i64 0] 65)
              have hbb := hba.alloc hba.size (.cells #[.bool true, .int .i64 1, .int .i64 (n : Int), .int .i64 0] 66)
              have hb2 := hbb.alloc hbb.size (.cells #[.bool false, .int .i64 2, .int .i64 (n : Int), .int .i64 AT] 66)
              have hW2 := ((Blk.new wr 65 #[.int .i64 1, .int .i64 (n : Int), .int .i64 0]).alloc (.cells #[.bool true, .int .i64 1, .int .i64 (n : Int), .int .i64 0] 66)).alloc (.cells #[.bool false, .int .i64 2, .int .i64 (n : Int), .int .i64 AT] 66)
              have x0 := (hX2.cell 0).trans rfl
              have x1 := (hX2.cell 1).trans rfl
              have x2 := (hX2.cell 2).trans rfl
              have x3 := (hX2.cell 3).trans rfl
              have HH := Lib.hid (And.intro hX2 (And.intro hrA2 (And.intro hrB2 (And.intro hrC2 (And.intro hO2 (And.intro hb2 hW2))))))
              clear cx hX hrA hrB hrC hO hb hX2 hrA2 hrB2 hrC2 hO2 hba hbb hb2 hW2
              go_wp2_with fail
              refine wp_loop_rounds 3 ?_
              rw [rounds_succ]
              go_wp2_with fail
              rw [rounds_succ]
              go_wp2_with fail
              rw [rounds_succ]
              go_wp2_with fail
              refine (CX.out _ HH.out.2.2.2.2.2.1).mono ?_
              rintro e W3 ⟨rfl, hc⟩
              obtain ⟨hX2, hrA2, hrB2, hrC2, hO2, hb2, hW2⟩ := HH.out
              have hX3 := (hX2.below hc hX2.lt).alloc (.cells #[.int .i64 1, .int .i64 (n : Int), .int .i64 0] 65)
              have hrA3 := (hrA2.below hc hrA2.lt).alloc (.cells #[.int .i64 1, .int .i64 (n : Int), .int .i64 0] 65)
              have hrB3 := (hrB2.below hc hrB2.lt).alloc (.cells #[.int .i64 1, .int .i64 (n : Int), .int .i64 0] 65)
              have hrC3 := (hrC2.below hc hrC2.lt).alloc (.cells #[.int .i64 1, .int .i64 (n : Int), .int .i64 0] 65)
              have hO3 := (hO2.below hc hO2.lt).alloc (.cells #[.int .i64 1, .int .i64 (n : Int), .int .i64 0] 65)
              have hW3 := (hW2.below hc hW2.lt).alloc (.cells #[.int .i64 1, .int .i64 (n : Int), .int .i64 0] 65)
              have hb3 := (hb2.trans (hc.mono hb2.size)).alloc (Nat.le_trans hb2.size hc.size) (.cells #[.int .i64 1, .int .i64 (n : Int), .int .i64 0] 65)
              have hQ3 := Blk.new W3 65 #[.int .i64 1, .int .i64 (n : Int), .int .i64 0]
              have w0 := (hW3.cell 0).trans rfl
              have w1 := (hW3.cell 1).trans rfl
              have w2 := (hW3.cell 2).trans rfl
              have HG := Lib.hid (And.intro hX3 (And.intro hrA3 (And.intro hrB3 (And.intro hrC3 (And.intro hO3 hb3)))))
              clear HH CX hX2 hrA2 hrB2 hrC2 hO2 hb2 hW2 hX3 hrA3 hrB3 hrC3 hO3 hb3 hW3 hQ3 hc co x0 x1 x2 x3 c0 c1 c2 c3 c4 c5 c6 c7
              go_wp2_with fail
              go_roundw
              case rel => exact ⟨3, by omega, by go_num, HG.out⟩
              case measure => simp [intOf]
            · skip
              have CX : Hid (∀ W, Below W1.heap.size W1 W → Calls Tryd.prog 27 #[.agg #[.slice s.rA NR s.rc, .slice s.zA NZ s.zc, .slice s.kA NK s.kc, .slice s.hA NH s.hc], .int .i64 3] W fun e w' => e = .returned (.tuple #[.agg #[.int .i64 1, .int .i64 (n : Int), .int .i64 0], .int .i64 17]) ∧ Below W.heap.size W w') := Lib.hid fun W h => by
                have q := cx W h
                simp only [if_true] at q
                exact q
              have c0 := ((hrC.alloc (.cells #[.int .i64 0, .int .i64 0, .int .i64 0] 65)).cell 0).trans rfl
              have c1 := ((hrC.alloc (.cells #[.int .i64 0, .int .i64 0, .int .i64 0] 65)).cell 1).trans rfl
              have c2 := ((hrC.alloc (.cells #[.int .i64 0, .int .i64 0, .int .i64 0] 65)).cell 2).trans rfl
              have c3 := ((hrC.alloc (.cells #[.int .i64 0, .int .i64 0, .int .i64 0] 65)).cell 3).trans rfl
              have c4 := (((hrC.alloc (.cells #[.int .i64 1, .int .i64 (n : Int), .int .i64 0] 65)).alloc (.cells #[.bool true, .int .i64 1, .int .i64 (n : Int), .int .i64 0] 66)).cell 4).trans rfl
              have c5 := (((hrC.alloc (.cells #[.int .i64 1, .int .i64 (n : Int), .int .i64 0] 65)).alloc (.cells #[.bool true, .int .i64 1, .int .i64 (n : Int), .int .i64 0] 66)).cell 5).trans rfl
              have c6 := (((hrC.alloc (.cells #[.int .i64 1, .int .i64 (n : Int), .int .i64 0] 65)).alloc (.cells #[.bool true, .int .i64 1, .int .i64 (n : Int), .int .i64 0] 66)).cell 6).trans rfl
              have c7 := (((hrC.alloc (.cells #[.int .i64 1, .int .i64 (n : Int), .int .i64 0] 65)).alloc (.cells #[.bool true, .int .i64 1, .int .i64 (n : Int), .int .i64 0] 66)).cell 7).trans rfl
              have co := (hO.cell 2).trans rfl
              have hX2 := ((hX.alloc (.cells #[.int .i64 1, .int .i64 (n : Int), .int .i64 0] 65)).alloc (.cells #[.bool true, .int .i64 1, .int .i64 (n : Int), .int .i64 0] 66)).alloc (.cells #[.bool true, .int .i64 2, .int .i64 (n : Int), .int .i64 AT] 66)
              have hrA2 := ((hrA.alloc (.cells #[.int .i64 1, .int .i64 (n : Int), .int .i64 0] 65)).alloc (.cells #[.bool true, .int .i64 1, .int .i64 (n : Int), .int .i64 0] 66)).alloc (.cells #[.bool true, .int .i64 2, .int .i64 (n : Int), .int .i64 AT] 66)
              have hrB2 := ((hrB.alloc (.cells #[.int .i64 1, .int .i64 (n : Int), .int .i64 0] 65)).alloc (.cells #[.bool true, .int .i64 1, .int .i64 (n : Int), .int .i64 0] 66)).alloc (.cells #[.bool true, .int .i64 2, .int .i64 (n : Int), .int .i64 AT] 66)
              have hrC2 := ((hrC.alloc (.cells #[.int .i64 1, .int .i64 (n : Int), .int .i64 0] 65)).alloc (.cells #[.bool true, .int .i64 1, .int .i64 (n : Int), .int .i64 0] 66)).alloc (.cells #[.bool true, .int .i64 2, .int .i64 (n : Int), .int .i64 AT] 66)
              have hO2 := ((hO.alloc (.cells #[.int .i64 1, .int .i64 (n : Int), .int .i64 0] 65)).alloc (.cells #[.bool true, .int .i64 1, .int .i64 (n : Int), .int .i64 0] 66)).alloc (.cells #[.bool true, .int .i64 2, .int .i64 (n : Int), .int .i64 AT] 66)
              have hba := hb.alloc hb.size (.cells #[.int .i64 1, .int .i64 (n : Int), .int .i64 0] 65)
              have hbb := hba.alloc hba.size (.cells #[.bool true, .int .i64 1, .int .i64 (n : Int), .int .i64 0] 66)
              have hb2 := hbb.alloc hbb.size (.cells #[.bool true, .int .i64 2, .int .i64 (n : Int), .int .i64 AT] 66)
              have hW2 := ((Blk.new wr 65 #[.int .i64 1, .int .i64 (n : Int), .int .i64 0]).alloc (.cells #[.bool true, .int .i64 1, .int .i64 (n : Int), .int .i64 0] 66)).alloc (.cells #[.bool true, .int .i64 2, .int .i64 (n : Int), .int .i64 AT] 66)
              have x0 := (hX2.cell 0).trans rfl
              have x1 := (hX2.cell 1).trans rfl
              have x2 := (hX2.cell 2).trans rfl
              have x3 := (hX2.cell 3).trans rfl
              have HH := Lib.hid (And.intro hX2 (And.intro hrA2 (And.intro hrB2 (And.intro hrC2 (And.intro hO2 (And.intro hb2 hW2))))))
              clear cx hX hrA hrB hrC hO hb hX2 hrA2 hrB2 hrC2 hO2 hba hbb hb2 hW2
              go_wp2_with fail
              refine wp_loop_rounds 3 ?_
              rw [rounds_succ]
              go_wp2_with fail
              rw [rounds_succ]
              go_wp2_with fail
              rw [rounds_succ]
              go_wp2_with fail
              refine (CX.out _ HH.out.2.2.2.2.2.1).mono ?_
              rintro e W3 ⟨rfl, hc⟩
              obtain ⟨hX2, hrA2, hrB2, hrC2, hO2, hb2, hW2⟩ := HH.out
              have hX3 := (hX2.below hc hX2.lt).alloc (.cells #[.int .i64 1, .int .i64 (n : Int), .int .i64 0] 65)
              have hrA3 := (hrA2.below hc hrA2.lt).alloc (.cells #[.int .i64 1, .int .i64 (n : Int), .int .i64 0] 65)
              have hrB3 := (hrB2.below hc hrB2.lt).alloc (.cells #[.int .i64 1, .int .i64 (n : Int), .int .i64 0] 65)
              have hrC3 := (hrC2.below hc hrC2.lt).alloc (.cells #[.int .i64 1, .int .i64 (n : Int), .int .i64 0] 65)
              have hO3 := (hO2.below hc hO2.lt).alloc (.cells #[.int .i64 1, .int .i64 (n : Int), .int .i64 0] 65)
              have hW3 := (hW2.below hc hW2.lt).alloc (.cells #[.int .i64 1, .int .i64 (n : Int), .int .i64 0] 65)
              have hb3 := (hb2.trans (hc.mono hb2.size)).alloc (Nat.le_trans hb2.size hc.size) (.cells #[.int .i64 1, .int .i64 (n : Int), .int .i64 0] 65)
              have hQ3 := Blk.new W3 65 #[.int .i64 1, .int .i64 (n : Int), .int .i64 0]
              have w0 := (hW3.cell 0).trans rfl
              have w1 := (hW3.cell 1).trans rfl
              have w2 := (hW3.cell 2).trans rfl
              have HG := Lib.hid (And.intro hX3 (And.intro hrA3 (And.intro hrB3 (And.intro hrC3 (And.intro hO3 hb3)))))
              clear HH CX hX2 hrA2 hrB2 hrC2 hO2 hb2 hW2 hX3 hrA3 hrB3 hrC3 hO3 hb3 hW3 hQ3 hc co x0 x1 x2 x3 c0 c1 c2 c3 c4 c5 c6 c7
              go_wp2_with fail
              go_roundw
              case rel => exact ⟨3, by omega, by go_num, HG.out⟩
              case measure => simp [intOf]
        · obtain rfl : k = 3 := by omega
          have hbw := HB1.out.trans (hb.mono HB1.out.size)
          have hvw := HV.out.below hbw
          clear hX hrA hrB hrC hO hb
          go_wp2_with fail
          refine (works24_any _ hvw).mono ?_
          rintro e W7 ⟨rfl, hc⟩
          have hb7 := hbw.trans (hc.mono hbw.size)
          clear hbw hvw hc
          go_wp2_with fail
          go_ret
          exact ⟨rfl, hb7⟩
end Go.Proofs.YtmhciidliicheaaDoor
