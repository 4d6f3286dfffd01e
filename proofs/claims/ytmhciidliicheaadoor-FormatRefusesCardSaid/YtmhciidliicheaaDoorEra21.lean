/- The walk of Era (chapter 21): an era by numbers; rules of a set as the callees read them. -/
import Derived.Test.YtmhciidliicheaaDoorPlain21m
import Derived.Test.YtmhciidliicheaaDoorMad17d
import Derived.Test.YtmhciidliicheaaDoorFlat21
import Derived.Test.YtmhciidliicheaaDoorStor
import Derived.IntWalk
import Derived.Deep.DeepCutAuto
namespace Go.Proofs.YtmhciidliicheaaDoor
open Go.RowKit Go.Lib
set_option linter.unusedVariables false

/-- a row of the call's own that holds rules -/
theorem rules_of_own17 {w : World} {base n : Nat} {v : Value} {L : List RV} (h : w.ownsRow base 38 11 v n (r17 L)) (hn : n = L.length) (h0 : 0 < n) : ∃ B c, v = .slice (some ⟨B, 0, none⟩) L.length c ∧ base ≤ B ∧ B < w.heap.size ∧ L.length ≤ c ∧ RulesIn w (some ⟨B, 0, none⟩) L := by
  obtain ⟨B, cap, hv, hB, hlt, hcap, hc⟩ := own_form h h0
  refine ⟨B, cap, by rw [hv, hn], hB, hlt, by omega, fun k r hr => ⟨B, 0, rfl, hlt, fun j u hu => ?_⟩⟩
  have hj : j < 11 := (List.getElem?_eq_some_iff.mp hu).1
  rw [Nat.zero_add]
  exact hc _ _ ((flat_at (m := 11) (fun _ => rfl) L k j r hj hr).trans hu)
theorem belowEra (w : World) (o1 o2 o3 : Obj) : Below w.heap.size w (((w.alloc o1).alloc o2).alloc o3) := (((Below.refl _ w).alloc (Nat.le_refl _) o1).alloc (by simp) o2).alloc (by simp; omega) o3
/-- the FORMAT by a number -/
def fmt21 (K off : Int) (L : List RV) : ByteArray :=
  if K = 0 then ⟨#[76, 77, 84]⟩ else if K = 1 then ⟨#[67, 69, 84, 47, 67, 69, 83, 84]⟩ else if K = 2 then ⟨#[69, 69, 37, 115, 84]⟩ else if K = 3 then ⟨#[37, 122]⟩ else str (P20.expansion 2 (offOf off) 0 (svs L)).1
set_option maxRecDepth 100000 in
set_option maxHeartbeats 8000000 in
theorem era21_any (A : Option Addr) (c : Nat) (L : List RV) (off kd : Int) (w : World) (ho : 0 ≤ off ∧ off ≤ 255) (hk : 0 ≤ kd ∧ kd ≤ 255) (hl : L.length ≤ 1000000) (hsv : SvOk L) (hR : RulesIn w A L) :
    Calls Tryd.prog 15 #[.slice A L.length c, .int .u8 off, .int .u8 kd] w fun e w' => e = .returned (.agg #[.int .i64 (offOf off), .int .i64 2, .int .i64 0, .string ⟨#[82]⟩, .string (fmt21 (kd.tmod 5) off L), .bool false, .int .i64 0, .int .i64 0, .int .i64 0, .int .i64 0, .int .i64 0, .int .i64 0, .int .i64 0]) ∧ Below w.heap.size w w' := by
  have hb := offOf_bd ho.1
  have cE : Hid (∀ W, Below w.heap.size w W → Calls Tryd.prog 23 #[.agg #[.int .i64 (offOf off), .int .i64 2, .int .i64 0, .string ⟨#[82]⟩, .string ⟨#[]⟩, .bool false, .int .i64 0, .int .i64 0, .int .i64 0, .int .i64 0, .int .i64 0, .int .i64 0, .int .i64 0], .slice A L.length c] W fun e w' => e = .returned (.tuple #[.string (str (P20.expansion 2 (offOf off) 0 (svs L)).1), .int .i64 (P20.expansion 2 (offOf off) 0 (svs L)).2]) ∧ Below W.heap.size W w') := fun W h => expansion_any (offOf off) 2 0 _ _ _ _ _ _ _ _ _ _ A L c W ⟨by omega, by omega⟩ ⟨by decide, by decide⟩ hl hsv (hR.below h)
  have hO : off.tmod 49 = off % 49 := Int.tmod_eq_emod_of_nonneg ho.1
  have hK : kd.tmod 5 = kd % 5 := Int.tmod_eq_emod_of_nonneg hk.1
  have hO2 : 0 ≤ off % 49 ∧ off % 49 ≤ 48 := by omega
  have hK2 : kd % 5 = 0 ∨ kd % 5 = 1 ∨ kd % 5 = 2 ∨ kd % 5 = 3 ∨ kd % 5 = 4 := by omega
  rw [← hO] at hO2
  rw [← hK] at hK2
  clear hO hK hb hR hsv hl
  have hoo : offOf off = (off.tmod 49 - 24) * 1800 := rfl
  obtain ⟨o0, o1⟩ := ho
  obtain ⟨k0, k1⟩ := hk
  obtain ⟨O, hO⟩ : ∃ O, off.tmod 49 = O := ⟨_, rfl⟩
  rw [hO] at hoo hO2
  unfold fmt21
  generalize (P20.expansion 2 (offOf off) 0 (svs L)).2 = X2 at *
  generalize str (P20.expansion 2 (offOf off) 0 (svs L)).1 = XS at *
  rw [hoo] at cE ⊢
  clear hoo
  obtain ⟨O0, O1⟩ := hO2
  generalize L.length = N at *
  rcases hK2 with hK | hK | hK | hK | hK
  · rw [hK]
    go_enter Tryd.func15, Tryd.ntmps15
    go_wp2_with fail
    exact bodyPost_ret (v := .agg #[.int .i64 ((O - 24) * 1800), .int .i64 2, .int .i64 0, .string ⟨#[82]⟩, .string ⟨#[76, 77, 84]⟩, .bool false, .int .i64 0, .int .i64 0, .int .i64 0, .int .i64 0, .int .i64 0, .int .i64 0, .int .i64 0]) (by simp [results, Tryd.results15, go_sem]) rfl ⟨rfl, belowEra _ _ _ _⟩
  · rw [hK]
    go_enter Tryd.func15, Tryd.ntmps15
    go_wp2_with fail
    exact bodyPost_ret (v := .agg #[.int .i64 ((O - 24) * 1800), .int .i64 2, .int .i64 0, .string ⟨#[82]⟩, .string ⟨#[67, 69, 84, 47, 67, 69, 83, 84]⟩, .bool false, .int .i64 0, .int .i64 0, .int .i64 0, .int .i64 0, .int .i64 0, .int .i64 0, .int .i64 0]) (by simp [results, Tryd.results15, go_sem]) rfl ⟨rfl, belowEra _ _ _ _⟩
  · rw [hK]
    go_enter Tryd.func15, Tryd.ntmps15
    go_wp2_with fail
    exact bodyPost_ret (v := .agg #[.int .i64 ((O - 24) * 1800), .int .i64 2, .int .i64 0, .string ⟨#[82]⟩, .string ⟨#[69, 69, 37, 115, 84]⟩, .bool false, .int .i64 0, .int .i64 0, .int .i64 0, .int .i64 0, .int .i64 0, .int .i64 0, .int .i64 0]) (by simp [results, Tryd.results15, go_sem]) rfl ⟨rfl, belowEra _ _ _ _⟩
  · rw [hK]
    go_enter Tryd.func15, Tryd.ntmps15
    go_wp2_with fail
    exact bodyPost_ret (v := .agg #[.int .i64 ((O - 24) * 1800), .int .i64 2, .int .i64 0, .string ⟨#[82]⟩, .string ⟨#[37, 122]⟩, .bool false, .int .i64 0, .int .i64 0, .int .i64 0, .int .i64 0, .int .i64 0, .int .i64 0, .int .i64 0]) (by simp [results, Tryd.results15, go_sem]) rfl ⟨rfl, belowEra _ _ _ _⟩
  · rw [hK]
    go_enter Tryd.func15, Tryd.ntmps15
    go_wp2_with fail
    refine (cE.out _ ?_).mono ?_
    · exact belowEra _ _ _ _
    rintro e W2 ⟨rfl, hc⟩
    have hb2 := (belowEra w (.cells #[.int .i64 0, .int .i64 0, .int .i64 0, .string ⟨#[]⟩, .string ⟨#[]⟩, .bool false, .int .i64 0, .int .i64 0, .int .i64 0, .int .i64 0, .int .i64 0, .int .i64 0, .int .i64 0] 33) (.cells #[.int .i64 ((O - 24) * 1800), .int .i64 2, .int .i64 0, .string ⟨#[82]⟩, .string ⟨#[]⟩, .bool false, .int .i64 0, .int .i64 0, .int .i64 0, .int .i64 0, .int .i64 0, .int .i64 0, .int .i64 0] 33) (.cells #[.string ⟨#[76, 77, 84]⟩, .string ⟨#[67, 69, 84, 47, 67, 69, 83, 84]⟩, .string ⟨#[69, 69, 37, 115, 84]⟩, .string ⟨#[37, 122]⟩, .string ⟨#[]⟩] 9)).trans (hc.mono (belowEra w _ _ _).size)
    have hE0 := (Blk.newAt (w.alloc (.cells #[.int .i64 0, .int .i64 0, .int .i64 0, .string ⟨#[]⟩, .string ⟨#[]⟩, .bool false, .int .i64 0, .int .i64 0, .int .i64 0, .int .i64 0, .int .i64 0, .int .i64 0, .int .i64 0] 33)) (w.heap.size + 1) (by simp) 33 #[.int .i64 ((O - 24) * 1800), .int .i64 2, .int .i64 0, .string ⟨#[82]⟩, .string ⟨#[]⟩, .bool false, .int .i64 0, .int .i64 0, .int .i64 0, .int .i64 0, .int .i64 0, .int .i64 0, .int .i64 0]).alloc (.cells #[.string ⟨#[76, 77, 84]⟩, .string ⟨#[67, 69, 84, 47, 67, 69, 83, 84]⟩, .string ⟨#[69, 69, 37, 115, 84]⟩, .string ⟨#[37, 122]⟩, .string ⟨#[]⟩] 9)
    have hZ0 := ((Blk.new w 33 #[.int .i64 0, .int .i64 0, .int .i64 0, .string ⟨#[]⟩, .string ⟨#[]⟩, .bool false, .int .i64 0, .int .i64 0, .int .i64 0, .int .i64 0, .int .i64 0, .int .i64 0, .int .i64 0]).alloc (.cells #[.int .i64 ((O - 24) * 1800), .int .i64 2, .int .i64 0, .string ⟨#[82]⟩, .string ⟨#[]⟩, .bool false, .int .i64 0, .int .i64 0, .int .i64 0, .int .i64 0, .int .i64 0, .int .i64 0, .int .i64 0] 33)).alloc (.cells #[.string ⟨#[76, 77, 84]⟩, .string ⟨#[67, 69, 84, 47, 67, 69, 83, 84]⟩, .string ⟨#[69, 69, 37, 115, 84]⟩, .string ⟨#[37, 122]⟩, .string ⟨#[]⟩] 9)
    have hE := hE0.below hc hE0.lt
    have hZ := hZ0.below hc hZ0.lt
    clear hE0 hZ0 hc cE
    have e4 := (hE.cell 4).trans rfl
    have f13 := hE.frozen 4
    have hE3 : Blk (W2.setCell ⟨w.heap.size + 1, 4, none⟩ (.string XS)) (w.heap.size + 1) 33 #[.int .i64 ((O - 24) * 1800), .int .i64 2, .int .i64 0, .string ⟨#[82]⟩, .string XS, .bool false, .int .i64 0, .int .i64 0, .int .i64 0, .int .i64 0, .int .i64 0, .int .i64 0, .int .i64 0] := hE.set_ 4 _
    have hZ3 : Blk (W2.setCell ⟨w.heap.size + 1, 4, none⟩ (.string XS)) w.heap.size 33 #[.int .i64 0, .int .i64 0, .int .i64 0, .string ⟨#[]⟩, .string ⟨#[]⟩, .bool false, .int .i64 0, .int .i64 0, .int .i64 0, .int .i64 0, .int .i64 0, .int .i64 0, .int .i64 0] := hZ.far (p := ⟨w.heap.size + 1, 4, none⟩) (by simp) _
    have hb3 := hb2.setCell (p := ⟨w.heap.size + 1, 4, none⟩) (Nat.le_succ _) (.string XS)
    have HH := Lib.hid (And.intro hE3 (And.intro hZ3 hb3))
    clear hE hZ hb2 hE3 hZ3 hb3
    go_upto_region 5 with fail
    obtain ⟨hE3, hZ3, hq0⟩ := HH.out
    clear HH e4 f13
    generalize W2.setCell ⟨w.heap.size + 1, 4, none⟩ (.string XS) = W3 at *
    have e0 := (hE3.cell 0).trans rfl
    have e1 := (hE3.cell 1).trans rfl
    have e2 := (hE3.cell 2).trans rfl
    have e3 := (hE3.cell 3).trans rfl
    have e4 := (hE3.cell 4).trans rfl
    have e5 := (hE3.cell 5).trans rfl
    have e6 := (hE3.cell 6).trans rfl
    have e7 := (hE3.cell 7).trans rfl
    have e8 := (hE3.cell 8).trans rfl
    have e9 := (hE3.cell 9).trans rfl
    have e10 := (hE3.cell 10).trans rfl
    have e11 := (hE3.cell 11).trans rfl
    have e12 := (hE3.cell 12).trans rfl
    have HZ := Lib.hid hZ3
    have HQ := Lib.hid hq0
    clear hZ3 hE3 hq0
    go_step
    go_simp
    go_step
    go_step
    go_simp
    go_step
    refine wpList_store_blk rfl _ _ _ rfl w.heap.size [.int .i64 ((O - 24) * 1800), .int .i64 2, .int .i64 0, .string ⟨#[82]⟩, .string XS, .bool false, .int .i64 0, .int .i64 0, .int .i64 0, .int .i64 0, .int .i64 0, .int .i64 0, .int .i64 0] rfl rfl _ _ HZ.out rfl (by kernel_rfl) (by simp [Value.oneCell']) ?_
    intro W4 hR hBl _
    have r0 := (hR.cell 0).trans rfl
    have r1 := (hR.cell 1).trans rfl
    have r2 := (hR.cell 2).trans rfl
    have r3 := (hR.cell 3).trans rfl
    have r4 := (hR.cell 4).trans rfl
    have r5 := (hR.cell 5).trans rfl
    have r6 := (hR.cell 6).trans rfl
    have r7 := (hR.cell 7).trans rfl
    have r8 := (hR.cell 8).trans rfl
    have r9 := (hR.cell 9).trans rfl
    have r10 := (hR.cell 10).trans rfl
    have r11 := (hR.cell 11).trans rfl
    have r12 := (hR.cell 12).trans rfl
    have HQ4 := Lib.hid (hBl _ _ (Nat.le_refl _) HQ.out)
    clear hR hBl HQ HZ e0 e1 e2 e3 e4 e5 e6 e7 e8 e9 e10 e11 e12
    go_wp2_with fail
    exact bodyPost_ret (v := .agg #[.int .i64 ((O - 24) * 1800), .int .i64 2, .int .i64 0, .string ⟨#[82]⟩, .string XS, .bool false, .int .i64 0, .int .i64 0, .int .i64 0, .int .i64 0, .int .i64 0, .int .i64 0, .int .i64 0]) (by simp [results, Tryd.results15, go_sem, r0, r1, r2, r3, r4, r5, r6, r7, r8, r9, r10, r11, r12]) rfl ⟨rfl, HQ4.out⟩
end Go.Proofs.YtmhciidliicheaaDoor
