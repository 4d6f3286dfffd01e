/- TurnFormats: for every input the law returns true, and each argument reads as before. No condition beside the row's own (the listed package-level variables read as listed; the card ties them to the program's text). -/
import Derived.Test.YtlideagcmhlkeaaDoorRT8
import Derived.Test.YtlideagcmhlkeaaDoorCards
import Derived.Test.YtlideagcmhlkeaaDoorTie
import Derived.Carry
import Derived.WalkKit
import Derived.ProofKit
import Derived.OpenShut
import Derived.ShutString
import Derived.LaidMore
import Derived.ChangeOld
import Derived.Below
import Derived.Stop.Joined
import Derived.Lib.SmallJoins
import Derived.SevenTiedAt

/- The walk of the law TurnFormats (chapter 29). -/
namespace Go.Proofs.YtlideagcmhlkeaaDoor
open Go.RowKit Go.Lib
set_option linter.unusedVariables false
set_option linter.unusedSimpArgs false

/-- what the law leans on: a FORMAT and the turned one -/
structure Tn (f G : ByteArray) : Prop where
  back : turnB G = f
  kind : P21.kind (P4.bl G) = P21.kind (P4.bl f)
  size : G.size = f.size
  same : P21.two (P4.bl f) = false → G = f
  abbr : P21.two (P4.bl f) = true → ∀ (off X : Int), X ≠ 0 → ∀ a b c d, P21.abbrv (P4.bl f) off 0 a = P21.abbrv (P4.bl G) off X b ∧ P21.abbrv (P4.bl f) off X c = P21.abbrv (P4.bl G) off 0 d ∧ (P21.abbrv (P4.bl f) off 0 a).2 = 0 ∧ (P21.abbrv (P4.bl f) off X c).2 = 0
theorem tn_of (f : ByteArray) : Tn f (turnB f) := by
  have e : P4.bl (turnB f) = P29.turn (P4.bl f) := bl_strP _
  refine ⟨turnB_turn f, by rw [e]; exact P29.kind_turn _, turnB_size f, turnB_no, fun h off X hX a b c d => ?_⟩
  rw [e]
  exact P29.turn_abbr h off off hX a b c d
set_option maxRecDepth 100000 in
set_option maxHeartbeats 16000000 in
theorem walkTurnFormats (f : ByteArray) (off sv : Int) (lt : ByteArray) (save : Int) (w : World) (ho : -9223372036854775808 ≤ off ∧ off ≤ 9223372036854775807) (hsv : -9223372036854775808 ≤ sv ∧ sv ≤ 9223372036854775807) (hs2 : -9223372036854775808 ≤ save ∧ save ≤ 9223372036854775807) (hv : Vars21 w) :
    Calls Tryd.prog 8 #[.string f, .int .i64 off, .agg #[.int .i64 sv, .string lt], .int .i64 save] w fun x w' => x = .returned (.bool true) ∧ Below w.heap.size w w' := by
  have HX := Lib.hid (Blk.new w 53 #[.int .i64 sv, .string lt])
  have HB := Lib.hid ((Below.refl w.heap.size w).alloc (Nat.le_refl _) (.cells #[.int .i64 sv, .string lt] 53))
  have HX0 := Lib.hid (Below.refl (w.alloc (.cells #[.int .i64 sv, .string lt] 53)).heap.size (w.alloc (.cells #[.int .i64 sv, .string lt] 53)))
  have HV := Lib.hid hv; have HO := Lib.hid ho; have HSV := Lib.hid hsv; have HS2 := Lib.hid hs2
  have c0 := (HX.out.cell 0).trans rfl; have c1 := (HX.out.cell 1).trans rfl
  clear hv ho hsv hs2
  by_cases h100 : 100 < f.size
  · have hi : (100 : Int) < (f.size : Int) := by omega
    clear h100
    go_enter Tryd.func8, Tryd.ntmps8
    go_wp2_with fail
    refine (works29_any _ (HV.out.below HB.out)).mono ?_
    rintro x W1 ⟨rfl, hc⟩
    have HBZ := Lib.hid (HB.out.trans (hc.mono HB.out.size))
    clear hc
    go_wp2_with fail
    go_ret
    exact ⟨rfl, HBZ.out⟩
  have hi : ¬ (100 : Int) < (f.size : Int) := by omega
  by_cases h50 : 50 < lt.size
  · have hj : (50 : Int) < (lt.size : Int) := by omega
    clear h100 h50
    go_enter Tryd.func8, Tryd.ntmps8
    go_wp2_with fail
    refine (works29_any _ (HV.out.below HB.out)).mono ?_
    rintro x W1 ⟨rfl, hc⟩
    have HBZ := Lib.hid (HB.out.trans (hc.mono HB.out.size))
    clear hc
    go_wp2_with fail
    go_ret
    exact ⟨rfl, HBZ.out⟩
  have hj : ¬ (50 : Int) < (lt.size : Int) := by omega
  obtain ⟨G, hG⟩ : ∃ G, turnB f = G := ⟨_, rfl⟩
  have hT := tn_of f
  rw [hG] at hT
  have HT := Lib.hid hT
  have HF := Lib.hid (show f.size ≤ 100 by omega)
  have HL := Lib.hid (show lt.size ≤ 50 by omega)
  have HG := Lib.hid (show G.size ≤ 100 by rw [hT.size]; omega)
  obtain ⟨K, hK⟩ : ∃ K, P21.kind (P4.bl f) = K := ⟨_, rfl⟩
  have hK2 := hT.kind.trans hK
  have C1 := Lib.hid (fun W (h : Below w.heap.size w W) => hG ▸ tformat_any f W (by omega) (HV.out.below h))
  have C2 := Lib.hid (fun W (h : Below w.heap.size w W) => hT.back ▸ tformat_any G W (by rw [hT.size]; omega) (HV.out.below h))
  have C3 := Lib.hid (fun W (h : Below w.heap.size w W) => hK2 ▸ kind_any G W (by rw [hT.size]; omega) (HV.out.below h))
  have C4 := Lib.hid (fun W (h : Below w.heap.size w W) => hK ▸ kind_any f W (by omega) (HV.out.below h))
  have hff : (f.toList == f.toList) = true := by simp
  have hKK : (K != K) = false := by simp
  clear hG hT hK hK2 h100 h50
  cases h2 : P21.two (P4.bl f) with
  | false =>
    have cP := Lib.hid (fun W (h : Below w.heap.size w W) => parts_no_ h2 ▸ parts_any f W (by have := HF.out; omega) (HV.out.below h))
    obtain rfl : G = f := HT.out.same h2
    obtain ⟨pv, pn, hp⟩ : ∃ pv pn, P21.abbrv (P4.bl G) off sv (P4.bl lt) = (pv, pn) := ⟨_, _, rfl⟩
    have cA := Lib.hid (fun W (h : Below w.heap.size w W) => hp ▸ fabbr_any G off sv lt W (by have := HF.out; omega) (by have := HL.out; omega) HO.out HSV.out (HV.out.below h))
    have hpp : ((str pv).toList == (str pv).toList) = true := by simp
    have hnn : (pn == pn) = true := by simp
    clear h2 hp
    go_enter Tryd.func8, Tryd.ntmps8
    go_wp2_with fail
    refine (C1.out _ HB.out).mono ?_
    rintro x W1 ⟨rfl, hc⟩
    have HB1 := Lib.hid (HB.out.trans (hc.mono HB.out.size))
    have HX1 := Lib.hid (HX0.out.trans (hc.mono HX0.out.size))
    clear hc c0 c1
    have c0 := ((HX.out.below HX1.out HX.out.lt).cell 0).trans rfl; have c1 := ((HX.out.below HX1.out HX.out.lt).cell 1).trans rfl
    go_wp2_with fail
    refine (C2.out _ HB1.out).mono ?_
    rintro x W2 ⟨rfl, hc⟩
    have HB2 := Lib.hid (HB1.out.trans (hc.mono HB1.out.size))
    have HX2 := Lib.hid (HX1.out.trans (hc.mono HX1.out.size))
    clear hc c0 c1
    have c0 := ((HX.out.below HX2.out HX.out.lt).cell 0).trans rfl; have c1 := ((HX.out.below HX2.out HX.out.lt).cell 1).trans rfl
    go_wp2_with fail
    refine (C3.out _ HB2.out).mono ?_
    rintro x W3 ⟨rfl, hc⟩
    have HB3 := Lib.hid (HB2.out.trans (hc.mono HB2.out.size))
    have HX3 := Lib.hid (HX2.out.trans (hc.mono HX2.out.size))
    clear hc c0 c1
    have c0 := ((HX.out.below HX3.out HX.out.lt).cell 0).trans rfl; have c1 := ((HX.out.below HX3.out HX.out.lt).cell 1).trans rfl
    go_wp2_with fail
    refine (C4.out _ HB3.out).mono ?_
    rintro x W4 ⟨rfl, hc⟩
    have HB4 := Lib.hid (HB3.out.trans (hc.mono HB3.out.size))
    have HX4 := Lib.hid (HX3.out.trans (hc.mono HX3.out.size))
    clear hc c0 c1
    have c0 := ((HX.out.below HX4.out HX.out.lt).cell 0).trans rfl; have c1 := ((HX.out.below HX4.out HX.out.lt).cell 1).trans rfl
    go_wp2_with fail
    refine (cP.out _ HB4.out).mono ?_
    rintro x W5 ⟨rfl, hc⟩
    have HB5 := Lib.hid (HB4.out.trans (hc.mono HB4.out.size))
    have HX5 := Lib.hid (HX4.out.trans (hc.mono HX4.out.size))
    clear hc c0 c1
    have c0 := ((HX.out.below HX5.out HX.out.lt).cell 0).trans rfl; have c1 := ((HX.out.below HX5.out HX.out.lt).cell 1).trans rfl
    go_wp2_with fail
    refine (cA.out _ HB5.out).mono ?_
    rintro x W6 ⟨rfl, hc⟩
    have HB6 := Lib.hid (HB5.out.trans (hc.mono HB5.out.size))
    have HX6 := Lib.hid (HX5.out.trans (hc.mono HX5.out.size))
    clear hc c0 c1
    have c0 := ((HX.out.below HX6.out HX.out.lt).cell 0).trans rfl; have c1 := ((HX.out.below HX6.out HX.out.lt).cell 1).trans rfl
    go_wp2_with fail
    refine (cA.out _ HB6.out).mono ?_
    rintro x W7 ⟨rfl, hc⟩
    have HB7 := Lib.hid (HB6.out.trans (hc.mono HB6.out.size))
    have HX7 := Lib.hid (HX6.out.trans (hc.mono HX6.out.size))
    clear hc c0 c1
    have c0 := ((HX.out.below HX7.out HX.out.lt).cell 0).trans rfl; have c1 := ((HX.out.below HX7.out HX.out.lt).cell 1).trans rfl
    go_wp2_with fail
    refine (works29_any _ (HV.out.below HB7.out)).mono ?_
    rintro x W8 ⟨rfl, hc⟩
    have HB8 := Lib.hid (HB7.out.trans (hc.mono HB7.out.size))
    have HX8 := Lib.hid (HX7.out.trans (hc.mono HX7.out.size))
    clear hc c0 c1
    have c0 := ((HX.out.below HX8.out HX.out.lt).cell 0).trans rfl; have c1 := ((HX.out.below HX8.out HX.out.lt).cell 1).trans rfl
    go_wp2_with fail
    go_ret
    exact ⟨rfl, HB8.out⟩
  | true =>
    obtain ⟨a, b, hpp, _, _⟩ := parts_yes h2
    have cP := Lib.hid (fun W (h : Below w.heap.size w W) => hpp ▸ parts_any f W (by have := HF.out; omega) (HV.out.below h))
    have HAB := Lib.hid (HT.out.abbr h2)
    clear hpp h2
    go_enter Tryd.func8, Tryd.ntmps8
    go_wp2_with fail
    refine (C1.out _ HB.out).mono ?_
    rintro x W1 ⟨rfl, hc⟩
    have HB1 := Lib.hid (HB.out.trans (hc.mono HB.out.size))
    have HX1 := Lib.hid (HX0.out.trans (hc.mono HX0.out.size))
    clear hc c0 c1
    have c0 := ((HX.out.below HX1.out HX.out.lt).cell 0).trans rfl; have c1 := ((HX.out.below HX1.out HX.out.lt).cell 1).trans rfl
    go_wp2_with fail
    refine (C2.out _ HB1.out).mono ?_
    rintro x W2 ⟨rfl, hc⟩
    have HB2 := Lib.hid (HB1.out.trans (hc.mono HB1.out.size))
    have HX2 := Lib.hid (HX1.out.trans (hc.mono HX1.out.size))
    clear hc c0 c1
    have c0 := ((HX.out.below HX2.out HX.out.lt).cell 0).trans rfl; have c1 := ((HX.out.below HX2.out HX.out.lt).cell 1).trans rfl
    go_wp2_with fail
    refine (C3.out _ HB2.out).mono ?_
    rintro x W3 ⟨rfl, hc⟩
    have HB3 := Lib.hid (HB2.out.trans (hc.mono HB2.out.size))
    have HX3 := Lib.hid (HX2.out.trans (hc.mono HX2.out.size))
    clear hc c0 c1
    have c0 := ((HX.out.below HX3.out HX.out.lt).cell 0).trans rfl; have c1 := ((HX.out.below HX3.out HX.out.lt).cell 1).trans rfl
    go_wp2_with fail
    refine (C4.out _ HB3.out).mono ?_
    rintro x W4 ⟨rfl, hc⟩
    have HB4 := Lib.hid (HB3.out.trans (hc.mono HB3.out.size))
    have HX4 := Lib.hid (HX3.out.trans (hc.mono HX3.out.size))
    clear hc c0 c1
    have c0 := ((HX.out.below HX4.out HX.out.lt).cell 0).trans rfl; have c1 := ((HX.out.below HX4.out HX.out.lt).cell 1).trans rfl
    go_wp2_with fail
    refine (cP.out _ HB4.out).mono ?_
    rintro x W5 ⟨rfl, hc⟩
    have HB5 := Lib.hid (HB4.out.trans (hc.mono HB4.out.size))
    have HX5 := Lib.hid (HX4.out.trans (hc.mono HX4.out.size))
    clear hc c0 c1
    have c0 := ((HX.out.below HX5.out HX.out.lt).cell 0).trans rfl; have c1 := ((HX.out.below HX5.out HX.out.lt).cell 1).trans rfl
    go_upto_if 87 with fail
    go_cut [3] (fun s3 wx => ∃ X, s3 = .int .i64 X ∧ wx = W5 ∧ Hid (X ≠ 0 ∧ -9223372036854775808 ≤ X ∧ X ≤ 9223372036854775807))
    case first =>
      by_cases h0 : save = 0
      · have hd : (save == 0) = true := by simp [h0]
        clear h0
        go_wp2_with fail
        go_meet
        exact ⟨3600, rfl, rfl, Lib.hid (by decide)⟩
      · have hd : (save == 0) = false := by simpa using h0
        have H0 := Lib.hid h0
        clear h0
        go_wp2_with fail
        go_meet
        exact ⟨save, rfl, rfl, Lib.hid ⟨H0.out, HS2.out⟩⟩
    case rest =>
      obtain ⟨X, rfl, rfl, hX⟩ := hcut
      obtain ⟨p1, hp1⟩ : ∃ p, P21.abbrv (P4.bl f) off 0 (P4.bl lt) = (p, 0) := ⟨_, Prod.ext rfl (HAB.out off X hX.out.1 (P4.bl lt) (P4.bl ⟨#[]⟩) (P4.bl ⟨#[]⟩) (P4.bl ⟨#[]⟩)).2.2.1⟩
      obtain ⟨p2, hp2⟩ : ∃ p, P21.abbrv (P4.bl f) off X (P4.bl ⟨#[]⟩) = (p, 0) := ⟨_, Prod.ext rfl (HAB.out off X hX.out.1 (P4.bl lt) (P4.bl ⟨#[]⟩) (P4.bl ⟨#[]⟩) (P4.bl ⟨#[]⟩)).2.2.2⟩
      have hp3 := (HAB.out off X hX.out.1 (P4.bl lt) (P4.bl ⟨#[]⟩) (P4.bl ⟨#[]⟩) (P4.bl ⟨#[]⟩)).1.symm.trans hp1
      have hp4 := (HAB.out off X hX.out.1 (P4.bl lt) (P4.bl ⟨#[]⟩) (P4.bl ⟨#[]⟩) (P4.bl ⟨#[]⟩)).2.1.symm.trans hp2
      have A1 := Lib.hid (fun W (h : Below w.heap.size w W) => hp1 ▸ fabbr_any f off 0 lt W (by have := HF.out; omega) (by have := HL.out; omega) HO.out (by decide) (HV.out.below h))
      have A2 := Lib.hid (fun W (h : Below w.heap.size w W) => hp3 ▸ fabbr_any G off X ⟨#[]⟩ W (by have := HG.out; omega) (by decide) HO.out hX.out.2 (HV.out.below h))
      have A3 := Lib.hid (fun W (h : Below w.heap.size w W) => hp2 ▸ fabbr_any f off X ⟨#[]⟩ W (by have := HF.out; omega) (by decide) HO.out hX.out.2 (HV.out.below h))
      have A4 := Lib.hid (fun W (h : Below w.heap.size w W) => hp4 ▸ fabbr_any G off 0 ⟨#[]⟩ W (by have := HG.out; omega) (by decide) HO.out (by decide) (HV.out.below h))
      have hq1 : ((str p1).toList == (str p1).toList) = true := by simp
      have hq2 : ((str p2).toList == (str p2).toList) = true := by simp
      clear hp1 hp2 hp3 hp4
      go_wp2_with fail
      refine (A1.out _ HB5.out).mono ?_
      rintro x W6 ⟨rfl, hc⟩
      have HB6 := Lib.hid (HB5.out.trans (hc.mono HB5.out.size))
      have HX6 := Lib.hid (HX5.out.trans (hc.mono HX5.out.size))
      clear hc c0 c1
      have c0 := ((HX.out.below HX6.out HX.out.lt).cell 0).trans rfl; have c1 := ((HX.out.below HX6.out HX.out.lt).cell 1).trans rfl
      go_wp2_with fail
      refine (A2.out _ HB6.out).mono ?_
      rintro x W7 ⟨rfl, hc⟩
      have HB7 := Lib.hid (HB6.out.trans (hc.mono HB6.out.size))
      have HX7 := Lib.hid (HX6.out.trans (hc.mono HX6.out.size))
      clear hc c0 c1
      have c0 := ((HX.out.below HX7.out HX.out.lt).cell 0).trans rfl; have c1 := ((HX.out.below HX7.out HX.out.lt).cell 1).trans rfl
      go_wp2_with fail
      refine (A3.out _ HB7.out).mono ?_
      rintro x W8 ⟨rfl, hc⟩
      have HB8 := Lib.hid (HB7.out.trans (hc.mono HB7.out.size))
      have HX8 := Lib.hid (HX7.out.trans (hc.mono HX7.out.size))
      clear hc c0 c1
      have c0 := ((HX.out.below HX8.out HX.out.lt).cell 0).trans rfl; have c1 := ((HX.out.below HX8.out HX.out.lt).cell 1).trans rfl
      go_wp2_with fail
      refine (A4.out _ HB8.out).mono ?_
      rintro x W9 ⟨rfl, hc⟩
      have HB9 := Lib.hid (HB8.out.trans (hc.mono HB8.out.size))
      have HX9 := Lib.hid (HX8.out.trans (hc.mono HX8.out.size))
      clear hc c0 c1
      have c0 := ((HX.out.below HX9.out HX.out.lt).cell 0).trans rfl; have c1 := ((HX.out.below HX9.out HX.out.lt).cell 1).trans rfl
      go_wp2_with fail
      refine (works29_any _ (HV.out.below HB9.out)).mono ?_
      rintro x W10 ⟨rfl, hc⟩
      have HB10 := Lib.hid (HB9.out.trans (hc.mono HB9.out.size))
      have HX10 := Lib.hid (HX9.out.trans (hc.mono HX9.out.size))
      clear hc c0 c1
      have c0 := ((HX.out.below HX10.out HX.out.lt).cell 0).trans rfl; have c1 := ((HX.out.below HX10.out HX.out.lt).cell 1).trans rfl
      go_wp2_with fail
      go_ret
      exact ⟨rfl, HB10.out⟩
end Go.Proofs.YtlideagcmhlkeaaDoor

/- TurnFormats: for every input the law returns true, and each argument reads as before. No condition beside the row's own (the listed package-level variables read as listed; the card ties them to the program's text). -/
namespace Go.Proofs.YtlideagcmhlkeaaDoor.lawTurnFormats
open Go.ChangeShapes Go.WideShapes Go.ChangeAt Go.RowKit Go.Joins
open Go.ChangeMaps (open_string shut_string)
set_option linter.unusedVariables false

theorem laidOut : laidOutB Tryd.prog = true := by kernel_rfl
theorem own : ownKnob Tryd.prog.godebug = none := by kernel_rfl
theorem door_met (os : Os) (args : Array Value) : laidMetH Tryd.prog Rows.turnFormatsRow.laid ((World.doorLaid Tryd.prog 400 os).forCall (fun _ _ => 0) ⟨#[], args, []⟩).memory :=
  laidMetH_of_parts3 (fuel := 8) (laidMet_of_run' 8 (by kernel_rfl) (by kernel_rfl)) (by kernel_rfl) (by kernel_rfl)
set_option maxRecDepth 100000 in
theorem lifted (os : Os) (started : os.Started) (H : Type) (enc : TypeId × Value → H) :
    ReturnsInHanded {} Tryd.checked os 8 .any (fun w args => (Rows.turnFormatsSpec.pre enc Tryd.prog Tryd.f8 [] false w args ∧ laidMetH Tryd.prog Rows.turnFormatsRow.laid w) ∧ sizedMet enc Tryd.prog Tryd.f8 (OpenSpec.ofChange Rows.turnFormatsSpec) false w args)
      (Rows.turnFormatsSpec.post enc Tryd.prog Tryd.f8 false true false false) := by
  refine handed_shaped (C := Tryd.checked) (X := fun w _ => laidMetH Tryd.prog Rows.turnFormatsRow.laid w) (fun _ _ _ hh h => h.of_heap hh) own started (by kernel_rfl) Tryd.func8
    (ChangeSpec.witness_shaped (enc := enc) (C := Tryd.checked) (os := os) (X := fun w _ => laidMetH Tryd.prog Rows.turnFormatsRow.laid w) false (World.doorLaid Tryd.prog 400 os) #[.string ⟨#[]⟩, .int .i64 0, .agg #[.int .i64 0, .string ⟨#[]⟩], .int .i64 0] 8 rfl (World.shaped_of_RefB (by kernel_rfl) (by kernel_rfl)) (by kernel_rfl) (by kernel_rfl) (by kernel_rfl) (door_met os _)) ?_
  intro W base args ds gs before hval0 hW _ _ hL hsh _
  have hval : ∀ (j : Nat) t v, Tryd.f8.params[j]? = some t → args[j]? = some v → Value.okWide Tryd.prog W .any base t v := hval0
  have hW' := hW
  obtain ⟨p, q, hA0, hV, rfl, hfz, hnd⟩ := hW
  have hA : DataW.TrodAll enc Tryd.prog W 0 (fun _ => true) true Tryd.f8.params.toList args.toList ds p := hA0
  rw [Tryd.params8] at hA hval
  obtain ⟨v0, vs0, d0, ds0, p0, q0, hargs, rfl, rfl, h0, r0⟩ := trodAll_cons hA
  obtain ⟨v1, vs1, d1, ds1, p1, q1, rfl, rfl, rfl, h1, r1⟩ := trodAll_cons r0
  obtain ⟨v2, vs2, d2, ds2, p2, q2, rfl, rfl, rfl, h2, r2⟩ := trodAll_cons r1
  obtain ⟨v3, vs3, d3, ds3, p3, q3, rfl, rfl, rfl, h3, r3⟩ := trodAll_cons r2
  obtain ⟨rfl, rfl, rfl⟩ := trodAll_nil r3
  obtain rfl : args = #[v0, v1, v2, v3] := by cases args; simp_all
  obtain ⟨rfl, rfl⟩ := trodVars_none hV
  have h0k := h0
  have h1k := h1
  have h2k := h2
  have h3k := h3
  have hlt : ∀ x ∈ (p0 ++ (p1 ++ (p2 ++ (p3 ++ [])))) ++ [], x.block < W.heap.size := fun x hx => by simpa using hW'.lt x hx
  have hvars := vars21_of_laid hL hsh
  have hk0 : ∀ W', Below W.heap.size W W' → DataW.Trod enc Tryd.prog W' 0 (fun b => decide (b < W.heap.size)) true 9 v0 d0 p0 := fun W' bel => Below.trod laidOut (by kernel_rfl) (of_decide_eq_true (by kernel_rfl)) h0k bel (fun x hx => hlt x (by simp [hx]))
  have hk1 : ∀ W', Below W.heap.size W W' → DataW.Trod enc Tryd.prog W' 0 (fun b => decide (b < W.heap.size)) true 2 v1 d1 p1 := fun W' bel => Below.trod laidOut (by kernel_rfl) (of_decide_eq_true (by kernel_rfl)) h1k bel (fun x hx => hlt x (by simp [hx]))
  have hk2 : ∀ W', Below W.heap.size W W' → DataW.Trod enc Tryd.prog W' 0 (fun b => decide (b < W.heap.size)) true 53 v2 d2 p2 := fun W' bel => Below.trod laidOut (by kernel_rfl) (of_decide_eq_true (by kernel_rfl)) h2k bel (fun x hx => hlt x (by simp [hx]))
  have hk3 : ∀ W', Below W.heap.size W W' → DataW.Trod enc Tryd.prog W' 0 (fun b => decide (b < W.heap.size)) true 2 v3 d3 p3 := fun W' bel => Below.trod laidOut (by kernel_rfl) (of_decide_eq_true (by kernel_rfl)) h3k bel (fun x hx => hlt x (by simp [hx]))
  obtain ⟨a0, rfl, rfl, rfl, w0⟩ := open_string Tryd.underlying9 (hval 0 9 v0 rfl rfl) h0
  obtain ⟨a1, rfl, rfl, rfl, w1⟩ := open_int Tryd.underlying2 (hval 1 2 v1 rfl rfl) h1
  obtain ⟨⟨l2⟩, rfl, hz2⟩ := okWide_struct Tryd.underlying53 (hval 2 53 v2 rfl rfl)
  obtain ⟨f2, hf2⟩ := h2
  have hl2 : l2.length = 2 := hz2.trans (by kernel_rfl)
  obtain ⟨sv2, lt2, hcs2, hS2, hZ2⟩ := open_state hl2 hf2
  subst hcs2
  obtain ⟨a3, rfl, rfl, rfl, w3⟩ := open_int Tryd.underlying2 (hval 3 2 v3 rfl rfl) h3
  clear hA0 hval0
  refine (walkTurnFormats a0 a1 sv2 lt2 a3 W (bounds_i64 w1) (bounds_i64 hS2) (bounds_i64 w3) hvars).mono fun e W' ⟨he, bel⟩ => ?_
  subst he
  exact ⟨_, rfl, _, _, _, [], _, [], hW', trodAll_mk1 (shut_bool Tryd.underlying4 _), trodAll_cons_mk (hk0 W' bel) (trodAll_cons_mk (hk1 W' bel) (trodAll_cons_mk (hk2 W' bel) (trodAll_cons_mk (hk3 W' bel) (trodAll_mk0)))), rfl, World.keptBut_mono (fun p hp => ⟨hp, Or.inr (by simpa using hp)⟩) (bel.frame _), fun h => by cases h⟩

theorem said : Rows.TurnFormatsSaid :=
  OpenClaim.holds_of_wide 8 Tryd.f8 rfl rfl rfl rfl rfl rfl rfl ⟨rfl, rfl, rfl, rfl, rfl⟩ rfl rfl rfl rfl rfl (by kernel_rfl) Tryd.func8 (by kernel_rfl)
    (of_decide_eq_true (by kernel_rfl)) (by unfold Func.isWrapper; first | (rw [if_pos (by decide +kernel)]; kernel_rfl) | (rw [if_neg (by decide +kernel)]; exact ⟨rfl, rfl⟩))
    (fun os started H enc _ => lifted os started H enc)

/-- No parameter wants a stand-in; the program's own looks are off: what the card asks. -/
theorem plain (f : FuncId) (fn : Func) (hf : Tryd.pinned.checked.prog.funcNamed Rows.turnFormatsRow.func = some f) (hfn : Tryd.pinned.checked.prog.funcs[f]? = some fn) :
    true = Tryd.pinned.checked.prog.looks [] ∧ ∀ (j : Nat) t, fn.params[j]? = some t → Tryd.pinned.checked.prog.wantsStandIn t = false := by
  obtain rfl : f = 8 := Option.some.inj ((show Tryd.prog.funcNamed Rows.turnFormatsRow.func = some 8 by kernel_rfl).symm.trans hf) |>.symm
  obtain rfl : fn = Tryd.f8 := (Option.some.inj (Tryd.func8.symm.trans hfn)).symm
  refine ⟨by kernel_rfl, fun j t ht => ?_⟩
  rw [Tryd.params8] at ht
  have hm := Array.mem_of_getElem? ht
  have hm2 : t = 9 ∨ t = 2 ∨ t = 53 ∨ t = 2 := by simpa using hm
  rcases hm2 with rfl | rfl | rfl | rfl
  · exact (show Tryd.prog.wantsStandIn 9 = false by kernel_rfl)
  · exact (show Tryd.prog.wantsStandIn 2 = false by kernel_rfl)
  · exact (show Tryd.prog.wantsStandIn 53 = false by kernel_rfl)
  · exact (show Tryd.prog.wantsStandIn 2 = false by kernel_rfl)
/-- THE CARD -/
theorem card : Rows.TurnFormatsCardSaid :=
  Claim7.holds_tied_plain_at .later [] _ _ _ _ said (fun _ h => by cases h) (by kernel_rfl) (fun _ h => by cases h) turnFormats_row_tie rfl ⟨rfl, rfl⟩ (by kernel_rfl) rfl plain (by kernel_rfl)
end Go.Proofs.YtlideagcmhlkeaaDoor.lawTurnFormats
