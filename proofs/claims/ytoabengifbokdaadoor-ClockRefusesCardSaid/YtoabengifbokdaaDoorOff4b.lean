/- The walk of offset.Parse (chapter 4). -/
import Derived.Test.YtoabengifbokdaaDoorOff4a
import Derived.Test.YtoabengifbokdaaDoorPlain4d
import Derived.Test.YtoabengifbokdaaDoorVars4
import Derived.Deep.DeepCutAuto
import Derived.Deep.CutBlock
import Derived.Handy
namespace Go.Proofs.YtoabengifbokdaaDoor
open Go.RowKit
set_option linter.unusedVariables false

theorem bcell {W w1 : World} (hb : Below W.heap.size W w1) : (∀ b o, b < W.heap.size → w1.cell? ⟨b, o, none⟩ = W.cell? ⟨b, o, none⟩) ∧ (∀ b o, b < W.heap.size → w1.frozen? ⟨b, o, none⟩ = W.frozen? ⟨b, o, none⟩) :=
  ⟨fun b o h => hb.cell (p := ⟨b, o, none⟩) h, fun b o h => hb.frozen (p := ⟨b, o, none⟩) h⟩
theorem pint_ok (d : ByteArray) (w : World) (h0 : d.size ≠ 0) (h3 : d.size ≤ 3) (hd : ∀ c ∈ P4.bl d, P4.isD c = true) :
    Calls Tryd.prog 30 #[.string d, .int .i64 10, .int .i64 64] w fun e w' => e = .returned (.tuple #[.int .i64 (P4.val (P4.bl d)), .nilIface]) ∧ Below w.heap.size w w' := by
  have hl := P4.bl_len d
  refine (Tryd.strconv_ParseInt_10_at64_ok d (by omega) _ (P4.parseInt_digits (P4.bl d) (fun e => by rw [e] at hl; simp at hl; omega) (by omega) hd) w).mono ?_
  rintro e w' ⟨rfl, hw⟩
  refine ⟨rfl, ?_⟩
  rcases hw with rfl | ⟨t, rfl⟩
  · exact Below.refl _ _
  · exact Lib.bytesWorld_below _ _ _
def ErrT : TypeId := 77
theorem pint_no (d : ByteArray) (w : World) (hd : d = ⟨#[]⟩) (hv : Vars w) :
    Calls Tryd.prog 30 #[.string d, .int .i64 10, .int .i64 64] w fun e w' => (∃ N, e = .returned (.tuple #[.int .i64 0, .iface 77 (.pointer (some ⟨N, 0, none⟩))])) ∧ Below w.heap.size w w' := by
  subst hd
  obtain ⟨tp, p, hs⟩ := hv.syn
  refine (Any.strconv_ParseInt_10_at64_syntax_var Tryd.laysC174 ⟨#[]⟩ (by decide) rfl tp p w hs).mono ?_
  rintro e w' ⟨N, rfl, _, _, hb⟩
  exact ⟨⟨N, rfl⟩, hb⟩

/-- what is left behind a minus sign -/
def P4.restS (s : ByteArray) : ByteArray := if P4.minusB (P4.bl s) then s.extract 1 s.size else s
theorem restS_size (s : ByteArray) : (P4.restS s).size ≤ s.size := by
  unfold P4.restS
  split
  · rw [ByteArray.size_extract]; omega
  · exact Nat.le_refl _
theorem restS_parse (s : ByteArray) : P4.parse (P4.bl s) = P4.from0 (P4.minusB (P4.bl s)) (P4.bl (P4.restS s)) := by
  rw [P4.from0_parse]
  unfold P4.restS
  split
  · rw [P4.bl_extract1]
  · rfl
theorem minus_nil {s : ByteArray} (h : s.toList = []) : P4.minusB (P4.bl s) = false := by
  have : P4.bl s = [] := by rw [← h]; exact (ByteArray.toList_eq s).symm
  rw [this]; rfl
theorem minus_yes {s : ByteArray} (hp : 0 < s.size) (h : (((s[0]'hp).toNat : Int) == 45) = true) : P4.minusB (P4.bl s) = true := by
  simp only [P4.minusB, P4.bl_get s 0 hp, beq_iff_eq] at h ⊢
  exact congrArg some (UInt8.toNat_inj.1 (by simp; omega))
theorem minus_no {s : ByteArray} (hp : 0 < s.size) (h : (((s[0]'hp).toNat : Int) == 45) = false) : P4.minusB (P4.bl s) = false := by
  simp only [P4.minusB, P4.bl_get s 0 hp, beq_eq_false_iff_ne] at h ⊢
  exact fun e => h (by injection e with e; rw [e]; rfl)

theorem digits_c (r : ByteArray) (n : Nat) (N : Int) (hN : N = n) (B : Nat) (w : World) (hs : r.size ≤ 1000000) (hn : n ≤ 3) (hc : w.cell? ⟨B, 0, none⟩ = some (.string r)) (hf : w.frozen? ⟨B, 0, none⟩ = false) :
    Calls Tryd.prog 29 #[.int .i64 N, .pointer (some ⟨B, 0, none⟩)] w fun e w' => e = .returned (.string (P4.digS r n)) ∧ w.setCell ⟨B, 0, none⟩ (.string (P4.behS r n)) = w' := by
  subst hN; rw [P4.digS_eq, P4.behS_eq]; exact digits_any r n B w hs hn hc hf

/-- what lies in memory at the head of a round: the string that is left, the three parts -/
structure PS (B : Nat) (w wr : World) (r : ByteArray) (p0 p1 p2 : Int) : Prop where
  c0 : wr.cell? ⟨B, 0, none⟩ = some (.string r)
  f0 : wr.frozen? ⟨B, 0, none⟩ = false
  q0 : wr.cell? ⟨B + 1, 0, none⟩ = some (.int .i64 p0)
  q1 : wr.cell? ⟨B + 1, 1, none⟩ = some (.int .i64 p1)
  q2 : wr.cell? ⟨B + 1, 2, none⟩ = some (.int .i64 p2)
  g0 : wr.frozen? ⟨B + 1, 0, none⟩ = false
  g1 : wr.frozen? ⟨B + 1, 1, none⟩ = false
  g2 : wr.frozen? ⟨B + 1, 2, none⟩ = false
  z : B + 1 < wr.heap.size
  b : Below B w wr
section
variable {B : Nat} {w wr w1 : World} {r : ByteArray} {p0 p1 p2 : Int}
theorem PS.box (h : PS B w wr r p0 p1 p2) (r' : ByteArray) : PS B w (wr.setCell ⟨B, 0, none⟩ (.string r')) r' p0 p1 p2 := by
  refine ⟨World.cell?_setCell_same' _ _ _ (by rw [h.c0]; rfl), ?_, ?_, ?_, ?_, ?_, ?_, ?_, ?_, h.b.setCell (p := ⟨B, 0, none⟩) (Nat.le_refl _) _⟩
  · rw [World.frozen?_setCell]; exact h.f0
  · rw [World.cell?_setCell_other _ _ _ _ (by simp)]; exact h.q0
  · rw [World.cell?_setCell_other _ _ _ _ (by simp)]; exact h.q1
  · rw [World.cell?_setCell_other _ _ _ _ (by simp)]; exact h.q2
  · rw [World.frozen?_setCell]; exact h.g0
  · rw [World.frozen?_setCell]; exact h.g1
  · rw [World.frozen?_setCell]; exact h.g2
  · simpa using h.z
theorem PS.below (h : PS B w wr r p0 p1 p2) (hb : Below wr.heap.size wr w1) : PS B w w1 r p0 p1 p2 := by
  have hz := h.z
  have hB : B < wr.heap.size := by omega
  exact ⟨(hb.cell (p := ⟨B, 0, none⟩) hB).trans h.c0, (hb.frozen (p := ⟨B, 0, none⟩) hB).trans h.f0,
    (hb.cell (p := ⟨B + 1, 0, none⟩) hz).trans h.q0, (hb.cell (p := ⟨B + 1, 1, none⟩) hz).trans h.q1, (hb.cell (p := ⟨B + 1, 2, none⟩) hz).trans h.q2,
    (hb.frozen (p := ⟨B + 1, 0, none⟩) hz).trans h.g0, (hb.frozen (p := ⟨B + 1, 1, none⟩) hz).trans h.g1, (hb.frozen (p := ⟨B + 1, 2, none⟩) hz).trans h.g2,
    Nat.lt_of_lt_of_le hz hb.size, h.b.trans (hb.mono (by omega))⟩
theorem PS.set0 (h : PS B w wr r p0 p1 p2) (v : Int) : PS B w (wr.setCell ⟨B + 1, 0, none⟩ (.int .i64 v)) r v p1 p2 := by
  refine ⟨?_, ?_, World.cell?_setCell_same' _ _ _ (by rw [h.q0]; rfl), ?_, ?_, ?_, ?_, ?_, ?_, h.b.setCell (p := ⟨B + 1, 0, none⟩) (by simp) _⟩
  · rw [World.cell?_setCell_other _ _ _ _ (by simp)]; exact h.c0
  · rw [World.frozen?_setCell]; exact h.f0
  · rw [World.cell?_setCell_other _ _ _ _ (by simp)]; exact h.q1
  · rw [World.cell?_setCell_other _ _ _ _ (by simp)]; exact h.q2
  · rw [World.frozen?_setCell]; exact h.g0
  · rw [World.frozen?_setCell]; exact h.g1
  · rw [World.frozen?_setCell]; exact h.g2
  · simpa using h.z
theorem PS.set1 (h : PS B w wr r p0 p1 p2) (v : Int) : PS B w (wr.setCell ⟨B + 1, 1, none⟩ (.int .i64 v)) r p0 v p2 := by
  refine ⟨?_, ?_, ?_, World.cell?_setCell_same' _ _ _ (by rw [h.q1]; rfl), ?_, ?_, ?_, ?_, ?_, h.b.setCell (p := ⟨B + 1, 1, none⟩) (by simp) _⟩
  · rw [World.cell?_setCell_other _ _ _ _ (by simp)]; exact h.c0
  · rw [World.frozen?_setCell]; exact h.f0
  · rw [World.cell?_setCell_other _ _ _ _ (by simp)]; exact h.q0
  · rw [World.cell?_setCell_other _ _ _ _ (by simp)]; exact h.q2
  · rw [World.frozen?_setCell]; exact h.g0
  · rw [World.frozen?_setCell]; exact h.g1
  · rw [World.frozen?_setCell]; exact h.g2
  · simpa using h.z
theorem PS.set2 (h : PS B w wr r p0 p1 p2) (v : Int) : PS B w (wr.setCell ⟨B + 1, 2, none⟩ (.int .i64 v)) r p0 p1 v := by
  refine ⟨?_, ?_, ?_, ?_, World.cell?_setCell_same' _ _ _ (by rw [h.q2]; rfl), ?_, ?_, ?_, ?_, h.b.setCell (p := ⟨B + 1, 2, none⟩) (by simp) _⟩
  · rw [World.cell?_setCell_other _ _ _ _ (by simp)]; exact h.c0
  · rw [World.frozen?_setCell]; exact h.f0
  · rw [World.cell?_setCell_other _ _ _ _ (by simp)]; exact h.q0
  · rw [World.cell?_setCell_other _ _ _ _ (by simp)]; exact h.q1
  · rw [World.frozen?_setCell]; exact h.g0
  · rw [World.frozen?_setCell]; exact h.g1
  · rw [World.frozen?_setCell]; exact h.g2
  · simpa using h.z
end
theorem PS.start {w wx : World} {r : ByteArray} (hc : wx.cell? ⟨w.heap.size, 0, none⟩ = some (.string r)) (hf : wx.frozen? ⟨w.heap.size, 0, none⟩ = false) (hz : wx.heap.size = w.heap.size + 1) (hb : Below w.heap.size w wx) :
    PS w.heap.size w (wx.alloc (.cells #[.int .i64 0, .int .i64 0, .int .i64 0] 57)) r 0 0 0 := by
  have hb' := hb.alloc (by omega) (.cells #[.int .i64 0, .int .i64 0, .int .i64 0] 57)
  refine ⟨?_, ?_, ?_, ?_, ?_, ?_, ?_, ?_, ?_, hb'⟩
  · rw [World.cell?_alloc_lt _ _ _ (by simp; omega)]; exact hc
  · simp [go_sem, hz]; exact hf
  · rw [← hz]; simp [go_sem]
  · rw [← hz]; simp [go_sem]
  · rw [← hz]; simp [go_sem]
  · rw [← hz]; simp [go_sem]
  · rw [← hz]; simp [go_sem]
  · rw [← hz]; simp [go_sem]
  · simp; omega
set_option maxRecDepth 100000 in
set_option maxHeartbeats 4000000 in
theorem parse_any (s : ByteArray) (w : World) (hs : s.size ≤ 1000000) (hv : Vars w) :
    Calls Tryd.prog 22 #[.string s] w fun e w' => e = .returned (.tuple #[.int .i64 (P4.pv (P4.bl s)), .int .i64 (P4.pe (P4.bl s))]) ∧ Below w.heap.size w w' := by
  have hlen := P4.bl_len s
  obtain ⟨mb, hmb⟩ : ∃ mb, mb = P4.minusB (P4.bl s) := ⟨_, rfl⟩
  obtain ⟨r, hr⟩ : ∃ r, r = P4.restS s := ⟨_, rfl⟩
  have HR := Lib.hid hr
  have HM := Lib.hid hmb
  have hrs : r.size ≤ 1000000 := by rw [hr]; have := restS_size s; omega
  have HP : Hid (P4.parse (P4.bl s) = P4.from0 mb (P4.bl r)) := by rw [hr, hmb]; exact restS_parse s
  clear hr hmb
  go_enter Tryd.func22, Tryd.ntmps22
  go_upto_region 2 with (fail)
  go_cut [5] (fun s5 wx => s5 = .bool mb ∧ wx = w.alloc (.cells #[.string s] 9))
  case first =>
    by_cases hsz : s.size = 0
    · have hnil : s.toList = [] := by rw [ByteArray.toList_eq]; exact List.eq_nil_of_length_eq_zero (by rw [hlen]; exact hsz)
      have HMB := Lib.hid (minus_nil hnil)
      go_wp2_with fail
      go_meet
      exact ⟨by rw [HM.out, HMB.out], rfl⟩
    · have hpos : 0 < s.size := by omega
      have hnil : ¬ s.toList = [] := by rw [ByteArray.toList_eq]; intro e; rw [show P4.bl s = [] from e] at hlen; simp only [List.length_nil] at hlen; omega
      have hie : s.toList.isEmpty = false := by simpa using hnil
      by_cases h45 : (((s[0]'hpos).toNat : Int) == 45) = true
      · have HMB := Lib.hid (minus_yes hpos h45)
        go_wp2_with fail
        go_meet
        exact ⟨by rw [HM.out, HMB.out], rfl⟩
      · have h45' : (((s[0]'hpos).toNat : Int) == 45) = false := by simpa using h45
        have HMB := Lib.hid (minus_no hpos h45')
        clear h45
        go_wp2_with fail
        go_meet
        exact ⟨by rw [HM.out, HMB.out], rfl⟩
  case rest =>
    obtain ⟨rfl, rfl⟩ := hcut
    go_upto_if 24 with (fail)
    go_cut [5] (fun s5 wx => s5 = .bool mb ∧ wx.cell? ⟨w.heap.size, 0, none⟩ = some (.string r) ∧ wx.frozen? ⟨w.heap.size, 0, none⟩ = false ∧ wx.heap.size = w.heap.size + 1 ∧ Below w.heap.size w wx)
    case first =>
      have hbx := ((Below.refl w.heap.size w).alloc (Nat.le_refl _) (.cells #[.string s] 9))
      cases mb with
      | false =>
        have hrs' : r = s := by rw [HR.out, P4.restS, if_neg (by rw [← HM.out]; simp)]
        have HRS := Lib.hid hrs'
        clear hrs'
        go_wp2_with fail
        go_meet
        exact ⟨rfl, by rw [HRS.out]; simp [go_sem], by simp [go_sem], by simp, hbx⟩
      | true =>
        have hrs' : r = s.extract 1 s.size := by rw [HR.out, P4.restS, if_pos HM.out.symm]
        have HRS := Lib.hid hrs'
        clear hrs'
        have hbx := ((Below.refl w.heap.size w).alloc (Nat.le_refl _) (.cells #[.string (s.extract 1 s.size)] 9))
        have hpos : (1 : Int) ≤ (s.size : Int) := by
          rcases Nat.eq_zero_or_pos s.size with e | e
          · exfalso
            have := HM.out
            rw [P4.minusB, List.getElem?_eq_none (by omega)] at this
            cases this
          · omega
        go_wp2_with fail
        go_meet
        exact ⟨rfl, by rw [HRS.out]; simp [go_sem], by simp [go_sem], by simp, hbx⟩
    case rest =>
      obtain ⟨rfl, hc0, hf0, hz0, hb0⟩ := hcut
      clear hlen
      go_upto_block 0 with (fail)
      go_cut [5] (fun s5 wx => s5 = .bool mb ∧ ∃ (r' : ByteArray) (p0 p1 p2 : Int), 0 ≤ p0 ∧ p0 ≤ 999 ∧ 0 ≤ p1 ∧ p1 ≤ 59 ∧ 0 ≤ p2 ∧ p2 ≤ 59 ∧ Hid (P4.parse (P4.bl s) = P4.fin mb (3600 * p0 + 60 * p1 + p2) (P4.bl r')) ∧ PS w.heap.size w wx r' p0 p1 p2)
      case first =>
        go_wp2_with fail
        go_loopw [28] (fun i wr => ∃ (k : Nat) (r' : ByteArray) (p0 p1 p2 : Int), k ≤ 3 ∧ i = .int .i64 k ∧ r'.size ≤ 1000000 ∧ 0 ≤ p0 ∧ p0 ≤ 999 ∧ 0 ≤ p1 ∧ p1 ≤ 59 ∧ 0 ≤ p2 ∧ p2 ≤ 59 ∧ (k ≤ 1 → p1 = 0) ∧ (k ≤ 2 → p2 = 0) ∧ Hid (P4.parse (P4.bl s) = P4.stage mb k p0 p1 p2 (P4.bl r')) ∧ PS w.heap.size w wr r' p0 p1 p2) (fun i _ => 4 - (intOf i).toNat)
        case atStart => exact ⟨0, r, 0, 0, 0, by omega, rfl, hrs, by omega, by omega, by omega, by omega, by omega, by omega, fun _ => rfl, fun _ => rfl, HP.out.trans (P4.stage_zero _ _ _ _ _).symm, PS.start hc0 hf0 hz0 hb0⟩
        -- ROUNDS
        case round =>
          obtain ⟨k, r', p0, p1, p2, hk, rfl, hr', h00, h01, h10, h11, h20, h21, hz1, hz2, HF, hPS⟩ := hrel
          have hc := hPS.c0
          have hf := hPS.f0
          match k, hk, hz1, hz2, HF with
          | 0, _, hz1, hz2, HF =>
            have HZ1 : Hid (p1 = 0) := hz1 (by decide)
            have HZ2 : Hid (p2 = 0) := hz2 (by decide)
            clear hz1 hz2
            have hP2 := hPS.box (P4.behS r' 3)
            rcases P4.r0_cases mb p0 p1 p2 r' _ HF.out with ⟨hd0, he, hz⟩ | ⟨hpos, hd3, hd0, h1i, h48, hz⟩ | ⟨hpos, hd3, hd0, h1i, hz⟩ | ⟨hpos, hd3, hd0, h1i, h48, hz⟩
            · skip
              have HE := Lib.hid he
              clear he
              have HZ := Lib.hid hz
              clear hz
              go_wp2_with fail
              refine (digits_c (r') 3 _ (by decide) _ _ hr' (by decide) hc hf).mono ?_
              rintro e w' ⟨rfl, rfl⟩
              go_wp2_with fail
              refine (pint_no _ _ HE.out (hv.below hP2.b)).mono ?_
              rintro e w1 ⟨⟨N, rfl⟩, hb⟩
              have hP3 := hP2.below hb
              go_wp2_with fail
              go_ret2
              exact ⟨by simp only [P4.pv, P4.pe, HZ.out]; rfl, hP3.b⟩
            · skip
              have HZ := Lib.hid hz
              clear hz
              go_wp2_with fail
              refine (digits_c (r') 3 _ (by decide) _ _ hr' (by decide) hc hf).mono ?_
              rintro e w' ⟨rfl, rfl⟩
              go_wp2_with fail
              refine (pint_ok _ _ hd0 hd3 (P4.dig_all (r') 3)).mono ?_
              rintro e w1 ⟨rfl, hb⟩
              have hP3 := hP2.below hb
              go_wp2_with fail
              go_ret2
              exact ⟨by simp only [P4.pv, P4.pe, HZ.out]; rfl, hP3.b⟩
            · skip
              have HS := Lib.hid hz
              clear hz
              have hbs := Nat.le_trans (P4.beh_size r' 3) hr'
              have hvd := P4.val_dig r' 3 (by decide)
              go_wp2_with fail
              refine (digits_c (r') 3 _ (by decide) _ _ hr' (by decide) hc hf).mono ?_
              rintro e w' ⟨rfl, rfl⟩
              go_wp2_with fail
              refine (pint_ok _ _ hd0 hd3 (P4.dig_all (r') 3)).mono ?_
              rintro e w1 ⟨rfl, hb⟩
              have hP3 := hP2.below hb
              have hq0 := hP3.q0
              have hg0 := hP3.g0
              go_wp2_with fail
              go_roundw
              case rel => exact ⟨1, P4.behS r' 3, P4.val (P4.bl (P4.digS r' 3)), 0, 0, by decide, rfl, hbs, hvd.1, hvd.2, by decide, by decide, by decide, by decide, fun _ => rfl, fun _ => rfl, HS, by have hx := hP3.set0 (P4.val (P4.bl (P4.digS r' 3))); rw [HZ1.out, HZ2.out] at hx; exact hx⟩
              case measure => simp [intOf]
            · skip
              have HS := Lib.hid hz
              clear hz
              have hbs := Nat.le_trans (P4.beh_size r' 3) hr'
              have hvd := P4.val_dig r' 3 (by decide)
              go_wp2_with fail
              refine (digits_c (r') 3 _ (by decide) _ _ hr' (by decide) hc hf).mono ?_
              rintro e w' ⟨rfl, rfl⟩
              go_wp2_with fail
              refine (pint_ok _ _ hd0 hd3 (P4.dig_all (r') 3)).mono ?_
              rintro e w1 ⟨rfl, hb⟩
              have hP3 := hP2.below hb
              have hq0 := hP3.q0
              have hg0 := hP3.g0
              go_wp2_with fail
              go_roundw
              case rel => exact ⟨1, P4.behS r' 3, P4.val (P4.bl (P4.digS r' 3)), 0, 0, by decide, rfl, hbs, hvd.1, hvd.2, by decide, by decide, by decide, by decide, fun _ => rfl, fun _ => rfl, HS, by have hx := hP3.set0 (P4.val (P4.bl (P4.digS r' 3))); rw [HZ1.out, HZ2.out] at hx; exact hx⟩
              case measure => simp [intOf]
          | 1, _, hz1, hz2, HF =>
            have HZ1 : Hid (p1 = 0) := hz1 (by decide)
            have HZ2 : Hid (p2 = 0) := hz2 (by decide)
            clear hz1 hz2
            have hP1 := hPS.box (r'.extract 1 r'.size)
            have hcs := hP1.c0
            have hfs := hP1.f0
            have hP2 := hP1.box (P4.behS (r'.extract 1 r'.size) 2)
            rcases P4.rk_cases mb 1 (.inl rfl) p0 p1 p2 (fun _ => HZ1.out) HZ2.out r' _ HF.out with ⟨ht, hti, hz⟩ | ⟨hpos, ht, hti, h58, hz⟩ | ⟨hpos, ht, hti, h1s, h58, hxs, hrest⟩
            · skip
              have HS := Lib.hid hz
              clear hz
              go_wp2_with fail
              go_meet
              exact ⟨rfl, r', p0, p1, p2, h00, h01, h10, h11, h20, h21, HS, hPS⟩
            · skip
              have HZ := Lib.hid hz
              clear hz
              have hP3 := hPS
              go_wp2_with fail
              go_ret2
              exact ⟨by simp only [P4.pv, P4.pe, HZ.out]; rfl, hP3.b⟩
            · have hxr := Nat.le_trans hxs hr'
              clear hxs
              rcases hrest with ⟨hd0, he, hz⟩ | ⟨hd3, hd0, hd2, hz⟩ | ⟨hd3, hd0, hd2, h59, hz⟩ | ⟨hd3, hd0, hd2, h59, hz⟩
              · skip
                have HE := Lib.hid he
                clear he
                have HZ := Lib.hid hz
                clear hz
                go_wp2_with fail
                refine (digits_c (r'.extract 1 r'.size) 2 _ (by decide) _ _ hxr (by decide) hcs hfs).mono ?_
                rintro e w' ⟨rfl, rfl⟩
                go_wp2_with fail
                refine (pint_no _ _ HE.out (hv.below hP2.b)).mono ?_
                rintro e w1 ⟨⟨N, rfl⟩, hb⟩
                have hP3 := hP2.below hb
                go_wp2_with fail
                go_ret2
                exact ⟨by simp only [P4.pv, P4.pe, HZ.out]; rfl, hP3.b⟩
              · skip
                have HZ := Lib.hid hz
                clear hz
                go_wp2_with fail
                refine (digits_c (r'.extract 1 r'.size) 2 _ (by decide) _ _ hxr (by decide) hcs hfs).mono ?_
                rintro e w' ⟨rfl, rfl⟩
                go_wp2_with fail
                refine (pint_ok _ _ hd0 hd3 (P4.dig_all (r'.extract 1 r'.size) 2)).mono ?_
                rintro e w1 ⟨rfl, hb⟩
                have hP3 := hP2.below hb
                go_wp2_with fail
                go_ret2
                exact ⟨by simp only [P4.pv, P4.pe, HZ.out]; rfl, hP3.b⟩
              · skip
                have HZ := Lib.hid hz
                clear hz
                go_wp2_with fail
                refine (digits_c (r'.extract 1 r'.size) 2 _ (by decide) _ _ hxr (by decide) hcs hfs).mono ?_
                rintro e w' ⟨rfl, rfl⟩
                go_wp2_with fail
                refine (pint_ok _ _ hd0 hd3 (P4.dig_all (r'.extract 1 r'.size) 2)).mono ?_
                rintro e w1 ⟨rfl, hb⟩
                have hP3 := hP2.below hb
                go_wp2_with fail
                go_ret2
                exact ⟨by simp only [P4.pv, P4.pe, HZ.out]; rfl, hP3.b⟩
              · skip
                have HS := Lib.hid hz
                clear hz
                have hbs := Nat.le_trans (P4.beh_size (r'.extract 1 r'.size) 2) hxr
                have hvd := (P4.val_dig (r'.extract 1 r'.size) 2 (by decide)).1
                go_wp2_with fail
                refine (digits_c (r'.extract 1 r'.size) 2 _ (by decide) _ _ hxr (by decide) hcs hfs).mono ?_
                rintro e w' ⟨rfl, rfl⟩
                go_wp2_with fail
                refine (pint_ok _ _ hd0 hd3 (P4.dig_all (r'.extract 1 r'.size) 2)).mono ?_
                rintro e w1 ⟨rfl, hb⟩
                have hP3 := hP2.below hb
                have hq := hP3.q1
                have hg := hP3.g1
                go_wp2_with fail
                go_roundw
                case rel => exact ⟨2, P4.behS (r'.extract 1 r'.size) 2, p0, P4.val (P4.bl (P4.digS (r'.extract 1 r'.size) 2)), 0, by decide, rfl, hbs, h00, h01, hvd, h59, by decide, by decide, fun q => absurd q (by decide), fun _ => rfl, HS, by have hx := hP3.set1 (P4.val (P4.bl (P4.digS (r'.extract 1 r'.size) 2))); rw [HZ2.out] at hx; exact hx⟩
                case measure => simp [intOf]
          | 2, _, hz1, hz2, HF =>
            have HZ2 : Hid (p2 = 0) := hz2 (by decide)
            clear hz1 hz2
            have hP1 := hPS.box (r'.extract 1 r'.size)
            have hcs := hP1.c0
            have hfs := hP1.f0
            have hP2 := hP1.box (P4.behS (r'.extract 1 r'.size) 2)
            rcases P4.rk_cases mb 2 (.inr rfl) p0 p1 p2 (fun q => absurd q (by decide)) HZ2.out r' _ HF.out with ⟨ht, hti, hz⟩ | ⟨hpos, ht, hti, h58, hz⟩ | ⟨hpos, ht, hti, h1s, h58, hxs, hrest⟩
            · skip
              have HS := Lib.hid hz
              clear hz
              go_wp2_with fail
              go_meet
              exact ⟨rfl, r', p0, p1, p2, h00, h01, h10, h11, h20, h21, HS, hPS⟩
            · skip
              have HZ := Lib.hid hz
              clear hz
              have hP3 := hPS
              go_wp2_with fail
              go_ret2
              exact ⟨by simp only [P4.pv, P4.pe, HZ.out]; rfl, hP3.b⟩
            · have hxr := Nat.le_trans hxs hr'
              clear hxs
              rcases hrest with ⟨hd0, he, hz⟩ | ⟨hd3, hd0, hd2, hz⟩ | ⟨hd3, hd0, hd2, h59, hz⟩ | ⟨hd3, hd0, hd2, h59, hz⟩
              · skip
                have HE := Lib.hid he
                clear he
                have HZ := Lib.hid hz
                clear hz
                go_wp2_with fail
                refine (digits_c (r'.extract 1 r'.size) 2 _ (by decide) _ _ hxr (by decide) hcs hfs).mono ?_
                rintro e w' ⟨rfl, rfl⟩
                go_wp2_with fail
                refine (pint_no _ _ HE.out (hv.below hP2.b)).mono ?_
                rintro e w1 ⟨⟨N, rfl⟩, hb⟩
                have hP3 := hP2.below hb
                go_wp2_with fail
                go_ret2
                exact ⟨by simp only [P4.pv, P4.pe, HZ.out]; rfl, hP3.b⟩
              · skip
                have HZ := Lib.hid hz
                clear hz
                go_wp2_with fail
                refine (digits_c (r'.extract 1 r'.size) 2 _ (by decide) _ _ hxr (by decide) hcs hfs).mono ?_
                rintro e w' ⟨rfl, rfl⟩
                go_wp2_with fail
                refine (pint_ok _ _ hd0 hd3 (P4.dig_all (r'.extract 1 r'.size) 2)).mono ?_
                rintro e w1 ⟨rfl, hb⟩
                have hP3 := hP2.below hb
                go_wp2_with fail
                go_ret2
                exact ⟨by simp only [P4.pv, P4.pe, HZ.out]; rfl, hP3.b⟩
              · skip
                have HZ := Lib.hid hz
                clear hz
                go_wp2_with fail
                refine (digits_c (r'.extract 1 r'.size) 2 _ (by decide) _ _ hxr (by decide) hcs hfs).mono ?_
                rintro e w' ⟨rfl, rfl⟩
                go_wp2_with fail
                refine (pint_ok _ _ hd0 hd3 (P4.dig_all (r'.extract 1 r'.size) 2)).mono ?_
                rintro e w1 ⟨rfl, hb⟩
                have hP3 := hP2.below hb
                go_wp2_with fail
                go_ret2
                exact ⟨by simp only [P4.pv, P4.pe, HZ.out]; rfl, hP3.b⟩
              · skip
                have HS := Lib.hid hz
                clear hz
                have hbs := Nat.le_trans (P4.beh_size (r'.extract 1 r'.size) 2) hxr
                have hvd := (P4.val_dig (r'.extract 1 r'.size) 2 (by decide)).1
                go_wp2_with fail
                refine (digits_c (r'.extract 1 r'.size) 2 _ (by decide) _ _ hxr (by decide) hcs hfs).mono ?_
                rintro e w' ⟨rfl, rfl⟩
                go_wp2_with fail
                refine (pint_ok _ _ hd0 hd3 (P4.dig_all (r'.extract 1 r'.size) 2)).mono ?_
                rintro e w1 ⟨rfl, hb⟩
                have hP3 := hP2.below hb
                have hq := hP3.q2
                have hg := hP3.g2
                go_wp2_with fail
                go_roundw
                case rel => exact ⟨3, P4.behS (r'.extract 1 r'.size) 2, p0, p1, P4.val (P4.bl (P4.digS (r'.extract 1 r'.size) 2)), by decide, rfl, hbs, h00, h01, h10, h11, hvd, h59, fun q => absurd q (by decide), fun q => absurd q (by decide), HS, hP3.set2 _⟩
                case measure => simp [intOf]
          | 3, _, hz1, hz2, HF =>
            clear hz1 hz2
            go_wp2_with fail
            go_meet
            exact ⟨rfl, r', p0, p1, p2, h00, h01, h10, h11, h20, h21, HF.out.trans (P4.stage_three _ _ _ _ _), hPS⟩
        -- ROUNDS END
      case rest =>
        obtain ⟨rfl, r', p0, p1, p2, hp0, hp0', hp1, hp1', hp2, hp2', HF, hPS⟩ := hcut
        have hv2 := hv.below hPS.b
        have hu0 := hv2.u0
        have hu1 := hv2.u1
        have hu2 := hv2.u2
        have hc0 := hPS.c0
        have hq0 := hPS.q0
        have hq1 := hPS.q1
        have hq2 := hPS.q2
        have i0 : ∀ W, (Instr.index 57 (.agg #[.int .i64 p0, .int .i64 p1, .int .i64 p2]) (.int .i64 0)).run Tryd.prog W = .ok (.int .i64 p0) W := fun _ => by kernel_rfl
        have i1 : ∀ W, (Instr.index 57 (.agg #[.int .i64 p0, .int .i64 p1, .int .i64 p2]) (.int .i64 1)).run Tryd.prog W = .ok (.int .i64 p1) W := fun _ => by kernel_rfl
        have i2 : ∀ W, (Instr.index 57 (.agg #[.int .i64 p0, .int .i64 p1, .int .i64 p2]) (.int .i64 2)).run Tryd.prog W = .ok (.int .i64 p2) W := fun _ => by kernel_rfl
        go_wp2_with fail
        refine wp_loop_rounds 4 ?_
        rw [rounds_succ]
        go_wp2_with fail
        rw [rounds_succ]
        go_wp2_with fail
        rw [rounds_succ]
        go_wp2_with fail
        rw [rounds_succ]
        go_wp2_with fail
        all_goals first
          | (have HZ := Lib.hid (HF.out.trans (P4.fin_full (by assumption))); go_ret2; exact ⟨by simp only [P4.pv, P4.pe, HZ.out]; rfl, hPS.b⟩)
          | (have HZ := Lib.hid (HF.out.trans (P4.fin_zero (by assumption) (by assumption) (by assumption))); go_ret2; exact ⟨by simp only [P4.pv, P4.pe, HZ.out]; rfl, hPS.b⟩)
          | (have HZ := Lib.hid (HF.out.trans (P4.fin_pos_far (by assumption) (by assumption) (by assumption))); go_ret2; exact ⟨by simp only [P4.pv, P4.pe, HZ.out]; rfl, hPS.b⟩)
          | (have HZ := Lib.hid (HF.out.trans (P4.fin_neg_far (by assumption) (by assumption) (by assumption))); go_ret2; exact ⟨by simp only [P4.pv, P4.pe, HZ.out]; rfl, hPS.b⟩)
          | (have HZ := Lib.hid (HF.out.trans (P4.fin_neg (by assumption) (by assumption) (by assumption) (by assumption))); go_ret2; exact ⟨by simp only [P4.pv, P4.pe, HZ.out]; rfl, hPS.b⟩)
          | (have HZ := Lib.hid (HF.out.trans (P4.fin_pos (by assumption) (by assumption) (by assumption))); go_ret2; exact ⟨by simp only [P4.pv, P4.pe, HZ.out]; rfl, hPS.b⟩)
end Go.Proofs.YtoabengifbokdaaDoor
