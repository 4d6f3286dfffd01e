/- The walks of the reference's Text and of report.Text (chapter 32). -/
import Derived.Test.YtggdfgdnpicepaaDoorRep32a
import Derived.Deep.DeepCutAuto
import Derived.Deep.CutBlock
import Derived.Lib.ItoaNum
namespace Go.Proofs.YtggdfgdnpicepaaDoor
open Go.RowKit
set_option linter.unusedVariables false

/-- a slice of changes -/
def ChIn (w : World) (A : Option Addr) (L : List P32.CV) : Prop := CellsIn 4 P32.CV.cells w A L
def ChOk (L : List P32.CV) : Prop := ∀ c ∈ L, (-9223372036854775808 ≤ c.part ∧ c.part ≤ 9223372036854775807) ∧ (-9223372036854775808 ≤ c.index ∧ c.index ≤ 9223372036854775807) ∧ (-9223372036854775808 ≤ c.era ∧ c.era ≤ 9223372036854775807) ∧ (-9223372036854775808 ≤ c.what ∧ c.what ≤ 9223372036854775807)
theorem wordL_len (b : Bool) (s : List UInt8) : (P32.wordL b s).length ≤ s.length + 1 := by
  unfold P32.wordL
  split <;> simp
theorem flat_take {α : Type} (f : α → List UInt8) (L : List α) (k : Nat) (c : α) (h : L[k]? = some c) : (L.take (k + 1)).flatMap f = (L.take k).flatMap f ++ f c := by
  rw [List.take_add_one, h, List.flatMap_append]
  simp
theorem line_len (c : P32.CV) (h1 : c.index ≤ 9223372036854775807) (h2 : c.era ≤ 9223372036854775807) : (P32.line c).length ≤ 100 := by
  have d1 := dec_le c.index.toNat (by omega)
  have d2 := dec_le c.era.toNat (by omega)
  unfold P32.line
  split
  · unfold P32.lineR
    have w1 := wordL_len (P32.bit c.what 1) [115, 97, 118, 101]
    have w2 := wordL_len (P32.bit c.what 2) [97, 116]
    simp only [List.length_append, List.length_cons, List.length_nil] at *
    omega
  · unfold P32.lineE
    have w1 := wordL_len (P32.bit c.what 4) [111, 102, 102]
    have w2 := wordL_len (P32.bit c.what 8) [102, 111, 114, 109, 97, 116]
    have w3 := wordL_len (P32.bit c.what 16) [117, 110, 116, 105, 108]
    simp only [List.length_append, List.length_cons, List.length_nil] at *
    omega
theorem flat_len (L : List P32.CV) (h : ChOk L) : (L.flatMap P32.line).length ≤ L.length * 100 := by
  induction L with
  | nil => simp
  | cons c L ih =>
    have h1 := h c (List.mem_cons_self ..)
    have := line_len c h1.2.1.2 h1.2.2.1.2
    have := ih (fun d hd => h d (List.mem_cons_of_mem _ hd))
    rw [List.flatMap_cons, List.length_append, List.length_cons]
    omega
theorem text_no {L : List P32.CV} {k : Nat} {c : P32.CV} (h : L[k]? = some c) (hc : ¬ P32.right c) : P32.text L = ([], 2) := if_neg (fun q => hc (q c (List.mem_of_getElem? h)))
theorem text_ok {L : List P32.CV} (h : ∀ c ∈ L, P32.right c) : P32.text L = (L.flatMap P32.line, 0) := if_pos h
theorem all_upto {L : List P32.CV} (h : ∀ j c, j < L.length → L[j]? = some c → P32.right c) : ∀ c ∈ L, P32.right c := fun c hc => by
  obtain ⟨j, hj⟩ := List.mem_iff_getElem?.1 hc
  exact h j c (List.getElem?_eq_some_iff.mp hj).1 hj

/-- the right changes of the first k -/
def RtTo (L : List P32.CV) (k : Nat) : Prop := ∀ j c, j < k → L[j]? = some c → P32.right c
theorem RtTo.succ {L : List P32.CV} {k : Nat} {c : P32.CV} (h : RtTo L k) (hc : L[k]? = some c) (hr : P32.right c) : RtTo L (k + 1) := by
  intro j d hj hd
  by_cases e : j < k
  · exact h j d e hd
  · obtain rfl : j = k := by omega
    rw [hc] at hd; injection hd with hd; rw [← hd]; exact hr
set_option maxRecDepth 100000 in
set_option maxHeartbeats 8000000 in
theorem rtext_any (A : Option Addr) (c : Nat) (L : List P32.CV) (w : World) (hl : L.length ≤ 1000) (hC : ChIn w A L) (hok : ChOk L) :
    Calls Tryd.prog 21 #[.slice A L.length c] w fun e w' => e = .returned (.tuple #[.string (str (P32.text L).1), .int .i64 (P32.text L).2]) ∧ Below w.heap.size w w' := by
  have hli : (L.length : Int) ≤ 1000 := by omega
  have HOK := Lib.hid hok
  clear hok
  obtain ⟨R, hR⟩ : ∃ R, P32.text L = R := ⟨_, rfl⟩
  rw [hR]
  have HR := Lib.hid hR
  clear hR
  have hC0 := hC
  go_enter Tryd.func21, Tryd.ntmps21
  go_wp2_with fail
  go_loopw [4, 5] (fun s i wr => ∃ k : Nat, k ≤ L.length ∧ i = .int .i64 k ∧ s = .string (str ((L.take k).flatMap P32.line)) ∧ Hid (RtTo L k) ∧ Below w.heap.size w wr) (fun _ i _ => L.length - (intOf i).toNat)
  case atStart => exact ⟨0, Nat.zero_le _, rfl, rfl, Lib.hid (fun j c h => by omega), Below.refl _ _⟩
  case round =>
    obtain ⟨k, hk, rfl, rfl, HT, hb⟩ := hrel
    have HC := Lib.hid (hC0.below hb)
    clear hC hC0
    by_cases hlt : k < L.length
    · obtain ⟨cv, hcv⟩ : ∃ cv, L[k]? = some cv := ⟨_, List.getElem?_eq_getElem hlt⟩
      obtain ⟨g, o, rfl, hg, hat⟩ := HC.out k cv hcv
      have HAT := Lib.hid hat
      have HN := Lib.hid (fun q => (text_no hcv q).symm.trans HR.out)
      have HF := Lib.hid (flat_take P32.line L k cv hcv)
      have hL1 : ((L.take k).flatMap P32.line).length ≤ 100000 := by
        have q := flat_len (L.take k) (fun d hd => HOK.out d (List.mem_of_mem_take hd))
        have := List.length_take_le k L
        omega
      have hLL := line_len cv (HOK.out cv (List.mem_of_getElem? hcv)).2.1.2 (HOK.out cv (List.mem_of_getElem? hcv)).2.2.1.2
      obtain ⟨hp, hi, he, hx⟩ := HOK.out cv (List.mem_of_getElem? hcv)
      have HT2 := Lib.hid (fun hr => HT.out.succ hcv hr)
      clear hat hcv HC
      obtain ⟨p, i, e, x⟩ := cv
      simp only at hp hi he hx
      obtain ⟨hp0, hp1⟩ := hp; obtain ⟨hi0, hi1⟩ := hi; obtain ⟨he0, he1⟩ := he; obtain ⟨hx0, hx1⟩ := hx
      have a0 : wr.cell? ⟨g, o + k * 4, none⟩ = some (.int .i64 p) := HAT.out 0 _ rfl
      have a1 : wr.cell? ⟨g, o + k * 4 + 1, none⟩ = some (.int .i64 i) := HAT.out 1 _ rfl
      have a2 : wr.cell? ⟨g, o + k * 4 + 2, none⟩ = some (.int .i64 e) := HAT.out 2 _ rfl
      have a3 : wr.cell? ⟨g, o + k * 4 + 3, none⟩ = some (.int .i64 x) := HAT.out 3 _ rfl
      have hki : (k : Int) < (L.length : Int) := by omega
      generalize hS : (L.take k).flatMap P32.line = S at *
      clear hS
      have hSz : (str S).size ≤ 100000 := hL1
      by_cases p1 : p = 1
      · have bp0 : (p == 1) = true := by simp [p1]
        have bp2 : (p == 2) = false := by simp [p1]
        by_cases c0 : 0 ≤ i
        rotate_left
        · skip
          have hRR : R = ([], 2) := (HN.out (by simp only [P32.right, P32.rightR, P32.rightE]; omega)).symm
          clear HN HF HT2 HR HOK HT HAT
          subst hRR
          go_wp2_with fail
          go_ret2
          exact ⟨rfl, hb.alloc hb.size _⟩
        by_cases c1 : e = 0
        rotate_left
        · have d1 : (e == 0) = false := by simp [c1]
          have hRR : R = ([], 2) := (HN.out (by simp only [P32.right, P32.rightR, P32.rightE]; omega)).symm
          clear HN HF HT2 HR HOK HT HAT
          subst hRR
          go_wp2_with fail
          go_ret2
          exact ⟨rfl, hb.alloc hb.size _⟩
        have d1 : (e == 0) = true := by simp [c1]
        by_cases c2 : 1 ≤ x
        rotate_left
        · skip
          have hRR : R = ([], 2) := (HN.out (by simp only [P32.right, P32.rightR, P32.rightE]; omega)).symm
          clear HN HF HT2 HR HOK HT HAT
          subst hRR
          go_wp2_with fail
          go_ret2
          exact ⟨rfl, hb.alloc hb.size _⟩
        by_cases c3 : x ≤ 3
        rotate_left
        · skip
          have hRR : R = ([], 2) := (HN.out (by simp only [P32.right, P32.rightR, P32.rightE]; omega)).symm
          clear HN HF HT2 HR HOK HT HAT
          subst hRR
          go_wp2_with fail
          go_ret2
          exact ⟨rfl, hb.alloc hb.size _⟩
        have hrt : P32.right ⟨p, i, e, x⟩ := .inl ⟨p1, c0, c1, by omega, by omega⟩
        have HL : Hid (((((str S ++ ⟨#[114, 117, 108, 101, 32]⟩) ++ str (Lib.decDigits i.toNat)) ++ str (P32.wordL (P32.bit x 1) [115, 97, 118, 101])) ++ str (P32.wordL (P32.bit x 2) [97, 116])) ++ ⟨#[10]⟩ = str ((L.take (k + 1)).flatMap P32.line)) := Lib.hid (by
          rw [HF.out, P32.line, if_pos p1, P32.lineR, show (⟨#[114, 117, 108, 101, 32]⟩ : ByteArray) = str [114, 117, 108, 101, 32] from rfl, show (⟨#[10]⟩ : ByteArray) = str [10] from rfl]
          simp only [str_append, List.append_assoc])
        have HT3 := HT2.out hrt
        have l1 : (str (Lib.decDigits i.toNat)).size ≤ 19 := dec_le _ (by omega)
        have l2 : (str (P32.wordL (P32.bit x 1) [115, 97, 118, 101])).size ≤ 5 := wordL_len _ _
        have l3 : (str (P32.wordL (P32.bit x 2) [97, 116])).size ≤ 3 := wordL_len _ _
        have cN := fun W => number_int i W c0 hi1
        have cW1 := fun W => word_any x 1 [115, 97, 118, 101] W (by omega) (by omega) (by decide) (by decide) (by decide)
        have cW2 := fun W => word_any x 2 [97, 116] W (by omega) (by omega) (by decide) (by decide) (by decide)
        have HcN := Lib.hid cN; have HcW1 := Lib.hid cW1; have HcW2 := Lib.hid cW2
        generalize str (Lib.decDigits i.toNat) = D at *
        generalize str (P32.wordL (P32.bit x 1) [115, 97, 118, 101]) = W1 at *
        generalize str (P32.wordL (P32.bit x 2) [97, 116]) = W2 at *
        have bp : (p == 1) = true := by simp [p1]
        clear HN HF HT2 HR HOK HT HAT hrt p1 c1 cN cW1 cW2
        go_wp2_with fail
        refine (HcN.out _).mono ?_
        rintro en w1 ⟨rfl, n1, rfl⟩
        go_wp2_with fail
        refine (HcW1.out _).mono ?_
        rintro en w2 ⟨rfl, rfl⟩
        go_wp2_with fail
        refine (HcW2.out _).mono ?_
        rintro en w3 ⟨rfl, rfl⟩
        go_wp2_with fail
        go_roundw
        case rel => exact ⟨k + 1, by omega, by go_num, by rw [← HL.out], HT3, below_drewN (hb.alloc hb.size _) _⟩
        case measure => simp [intOf]; omega
      · have bp0 : (p == 1) = false := by simp [p1]
        by_cases p2 : p = 2
        · have bp2 : (p == 2) = true := by simp [p2]
          by_cases c0 : 0 ≤ i
          rotate_left
          · skip
            have hRR : R = ([], 2) := (HN.out (by simp only [P32.right, P32.rightR, P32.rightE]; omega)).symm
            clear HN HF HT2 HR HOK HT HAT
            subst hRR
            go_wp2_with fail
            go_ret2
            exact ⟨rfl, hb.alloc hb.size _⟩
          by_cases c1 : 0 ≤ e
          rotate_left
          · skip
            have hRR : R = ([], 2) := (HN.out (by simp only [P32.right, P32.rightR, P32.rightE]; omega)).symm
            clear HN HF HT2 HR HOK HT HAT
            subst hRR
            go_wp2_with fail
            go_ret2
            exact ⟨rfl, hb.alloc hb.size _⟩
          by_cases c2 : 4 ≤ x
          rotate_left
          · skip
            have hRR : R = ([], 2) := (HN.out (by simp only [P32.right, P32.rightR, P32.rightE]; omega)).symm
            clear HN HF HT2 HR HOK HT HAT
            subst hRR
            go_wp2_with fail
            go_ret2
            exact ⟨rfl, hb.alloc hb.size _⟩
          by_cases c3 : x ≤ 28
          rotate_left
          · skip
            have hRR : R = ([], 2) := (HN.out (by simp only [P32.right, P32.rightR, P32.rightE]; omega)).symm
            clear HN HF HT2 HR HOK HT HAT
            subst hRR
            go_wp2_with fail
            go_ret2
            exact ⟨rfl, hb.alloc hb.size _⟩
          by_cases c4 : x % 4 = 0
          rotate_left
          · have d4 : (x % 4 == 0) = false := by simp [c4]
            have hRR : R = ([], 2) := (HN.out (by simp only [P32.right, P32.rightR, P32.rightE]; omega)).symm
            clear HN HF HT2 HR HOK HT HAT
            subst hRR
            go_wp2_with fail
            go_ret2
            exact ⟨rfl, hb.alloc hb.size _⟩
          have d4 : (x % 4 == 0) = true := by simp [c4]
          have hrt : P32.right ⟨p, i, e, x⟩ := .inr ⟨p2, c0, c1, c2, c3, c4⟩
          have HL : Hid (((((((((str S ++ ⟨#[101, 114, 97, 32]⟩) ++ str (Lib.decDigits i.toNat)) ++ ⟨#[32]⟩) ++ str (Lib.decDigits e.toNat)) ++ str (P32.wordL (P32.bit x 4) [111, 102, 102])) ++ str (P32.wordL (P32.bit x 8) [102, 111, 114, 109, 97, 116])) ++ str (P32.wordL (P32.bit x 16) [117, 110, 116, 105, 108])) ++ ⟨#[10]⟩) = str ((L.take (k + 1)).flatMap P32.line)) := Lib.hid (by
            rw [HF.out, P32.line, if_neg (by show ¬ p = 1; omega), P32.lineE, show (⟨#[101, 114, 97, 32]⟩ : ByteArray) = str [101, 114, 97, 32] from rfl, show (⟨#[32]⟩ : ByteArray) = str [32] from rfl, show (⟨#[10]⟩ : ByteArray) = str [10] from rfl]
            simp only [str_append, List.append_assoc])
          have HT3 := HT2.out hrt
          have l1 : (str (Lib.decDigits i.toNat)).size ≤ 19 := dec_le _ (by omega)
          have l4 : (str (Lib.decDigits e.toNat)).size ≤ 19 := dec_le _ (by omega)
          have lW1 : (str (P32.wordL (P32.bit x 4) [111, 102, 102])).size ≤ 4 := wordL_len _ _
          have cW1 : Hid (∀ W, Calls Tryd.prog 56 #[.int .i64 x, .int .i64 4, .string (⟨#[111, 102, 102]⟩)] W fun e w' => e = .returned (.string (str (P32.wordL (P32.bit x 4) [111, 102, 102]))) ∧ W = w') := Lib.hid (fun W => word_any x 4 [111, 102, 102] W (by omega) (by omega) (by decide) (by decide) (by decide))
          have lW2 : (str (P32.wordL (P32.bit x 8) [102, 111, 114, 109, 97, 116])).size ≤ 7 := wordL_len _ _
          have cW2 : Hid (∀ W, Calls Tryd.prog 56 #[.int .i64 x, .int .i64 8, .string (⟨#[102, 111, 114, 109, 97, 116]⟩)] W fun e w' => e = .returned (.string (str (P32.wordL (P32.bit x 8) [102, 111, 114, 109, 97, 116]))) ∧ W = w') := Lib.hid (fun W => word_any x 8 [102, 111, 114, 109, 97, 116] W (by omega) (by omega) (by decide) (by decide) (by decide))
          have lW3 : (str (P32.wordL (P32.bit x 16) [117, 110, 116, 105, 108])).size ≤ 6 := wordL_len _ _
          have cW3 : Hid (∀ W, Calls Tryd.prog 56 #[.int .i64 x, .int .i64 16, .string (⟨#[117, 110, 116, 105, 108]⟩)] W fun e w' => e = .returned (.string (str (P32.wordL (P32.bit x 16) [117, 110, 116, 105, 108]))) ∧ W = w') := Lib.hid (fun W => word_any x 16 [117, 110, 116, 105, 108] W (by omega) (by omega) (by decide) (by decide) (by decide))
          have HcN := Lib.hid (fun W => number_int i W c0 hi1); have HcM := Lib.hid (fun W => number_int e W c1 he1)
          generalize str (Lib.decDigits i.toNat) = D at *
          generalize str (Lib.decDigits e.toNat) = E at *
          generalize str (P32.wordL (P32.bit x 4) [111, 102, 102]) = W1 at *
          generalize str (P32.wordL (P32.bit x 8) [102, 111, 114, 109, 97, 116]) = W2 at *
          generalize str (P32.wordL (P32.bit x 16) [117, 110, 116, 105, 108]) = W3 at *
          have bp1 : (p == 1) = false := by simp [p1]
          have bp2 : (p == 2) = true := by simp [p2]
          clear HN HF HT2 HR HOK HT HAT hrt p1 p2 c4
          go_wp2_with fail
          go_quiet (first | ((go_at_call 55; first | with_reducible exact quiet_q (HcN.out _) | with_reducible exact quiet_q (HcM.out _))) | ((go_at_call 56; first | with_reducible exact quiet_s (cW1.out _) | with_reducible exact quiet_s (cW2.out _) | with_reducible exact quiet_s (cW3.out _))))
          go_wp2_with fail
          go_roundw
          case rel => exact ⟨k + 1, by omega, by go_num, by rw [← HL.out], HT3, below_drewN (hb.alloc hb.size _) _⟩
          case measure => simp [intOf]; omega
        · have bp2 : (p == 2) = false := by simp [p2]
          have hRR : R = ([], 2) := (HN.out (by simp only [P32.right, P32.rightR, P32.rightE]; omega)).symm
          clear HN HF HT2 HR HOK HT HAT
          subst hRR
          go_wp2_with fail
          go_ret2
          exact ⟨rfl, hb.alloc hb.size _⟩
    · obtain rfl : k = L.length := by omega
      have hki : ¬ (L.length : Int) < (L.length : Int) := by omega
      obtain rfl : R = (L.flatMap P32.line, 0) := HR.out.symm.trans (text_ok (all_upto HT.out))
      rw [List.take_length]
      go_wp2_with fail
      go_ret2
      exact ⟨rfl, hb⟩
end Go.Proofs.YtggdfgdnpicepaaDoor
