/- The walks of the reference's two and Parse (chapter 20). -/
import Derived.Test.YtbajlkpjemandaaDoorNum20c
namespace Go.Proofs.YtbajlkpjemandaaDoor
open Go.RowKit
set_option linter.unusedVariables false

/-- the number of two digits at a place; -1: there is none -/
def P20.tv (l : List UInt8) (k : Nat) : Int := (P20.chunk true ((l.drop k).take 2)).getD (-1)
theorem tv_short (l : List UInt8) (k : Nat) (h : l.length < k + 2) : P20.tv l k = -1 := by
  unfold P20.tv P20.chunk
  rw [if_neg]
  · rfl
  · rintro ⟨_, q⟩
    have := q rfl
    rw [List.length_take, List.length_drop] at this
    omega
theorem take_two (l : List UInt8) (k : Nat) (a b : UInt8) (ha : l[k]? = some a) (hb : l[k + 1]? = some b) : (l.drop k).take 2 = [a, b] := by
  have h1 : k < l.length := (List.getElem?_eq_some_iff.mp ha).1
  have h2 : k + 1 < l.length := (List.getElem?_eq_some_iff.mp hb).1
  have e1 : l[k] = a := (List.getElem?_eq_some_iff.mp ha).2
  have e2 : l[k + 1] = b := (List.getElem?_eq_some_iff.mp hb).2
  rw [List.drop_eq_getElem_cons h1, List.drop_eq_getElem_cons h2, e1, e2]
  rfl
theorem tv_long (l : List UInt8) (k : Nat) (a b : UInt8) (ha : l[k]? = some a) (hb : l[k + 1]? = some b) :
    P20.tv l k = if 48 ≤ (a.toNat : Int) ∧ (a.toNat : Int) ≤ 57 ∧ 48 ≤ (b.toNat : Int) ∧ (b.toNat : Int) ≤ 57 then 10 * ((a.toNat : Int) - 48) + ((b.toNat : Int) - 48) else -1 := by
  unfold P20.tv P20.chunk
  rw [take_two l k a b ha hb]
  by_cases h : 48 ≤ (a.toNat : Int) ∧ (a.toNat : Int) ≤ 57 ∧ 48 ≤ (b.toNat : Int) ∧ (b.toNat : Int) ≤ 57
  · rw [if_pos h, if_pos]
    · simp only [P4.val, P4.valFrom, Option.getD_some]; omega
    · refine ⟨?_, fun _ => rfl⟩
      simp only [List.all_cons, List.all_nil, Bool.and_true, Bool.and_eq_true, P4.isD, decide_eq_true_eq]
      omega
  · rw [if_neg h, if_neg]
    · rfl
    · rintro ⟨q, _⟩
      simp only [List.all_cons, List.all_nil, Bool.and_true, Bool.and_eq_true, P4.isD, decide_eq_true_eq] at q
      omega
theorem tv_bd (l : List UInt8) (k : Nat) : -1 ≤ P20.tv l k ∧ P20.tv l k ≤ 99 := by
  by_cases h : l.length < k + 2
  · rw [tv_short l k h]; omega
  · rw [tv_long l k l[k] l[k+1] (List.getElem?_eq_getElem (by omega)) (List.getElem?_eq_getElem (by omega))]
    split <;> omega
set_option maxHeartbeats 1000000 in
theorem rtwo20_any (s : ByteArray) (k : Nat) (K : Int) (hK : K = k) (w : World) (hs : s.size ≤ 1000000) (hk : k ≤ 2000000) :
    Calls Tryd.prog 116 #[.string s, .int .i64 K] w fun e w' => e = .returned (.int .i64 (P20.tv (P4.bl s) k)) ∧ Q w w' := by
  subst hK
  have hlen := P4.bl_len s
  by_cases h : s.size < k + 2
  · have hi : (s.size : Int) < (k : Int) + 2 := by omega
    have HT := Lib.hid (tv_short (P4.bl s) k (by omega))
    clear h hlen
    go_enter Tryd.func116, Tryd.ntmps116
    go_wp2_with fail
    go_ret
    exact ⟨by rw [HT.out]; rfl, Q.refl _⟩
  · have hi : (k : Int) + 2 ≤ (s.size : Int) := by omega
    have h1 : k < s.size := by omega
    have h2 : k + 1 < s.size := by omega
    obtain ⟨a, ha⟩ : ∃ a : Int, ((s[k]'h1).toNat : Int) = a := ⟨_, rfl⟩
    obtain ⟨b, hb⟩ : ∃ b : Int, ((s[k+1]'h2).toNat : Int) = b := ⟨_, rfl⟩
    have hT := tv_long (P4.bl s) k _ _ (P4.bl_get s k h1) (P4.bl_get s (k + 1) h2)
    rw [ha, hb] at hT
    have hA : ∀ h, ((s[k]'h).toNat : Int) = a := fun _ => ha
    have hB : ∀ h, ((s[k+1]'h).toNat : Int) = b := fun _ => hb
    have ha0 : 0 ≤ a := by omega
    have hb0 : 0 ≤ b := by omega
    have ha9 : a ≤ 255 := by have := (s[k]'h1).toNat_lt; omega
    have hb9 : b ≤ 255 := by have := (s[k+1]'h2).toNat_lt; omega
    have HT := Lib.hid hT
    clear hT ha hb hlen h
    by_cases q0 : 48 ≤ a
    · skip
      by_cases q1 : a ≤ 57
      · skip
        by_cases q2 : 48 ≤ b
        · skip
          by_cases q3 : b ≤ 57
          · skip
            go_enter Tryd.func116, Tryd.ntmps116
            go_wp2_with fail
            go_quiet (fail)
            go_wp2_with fail
            go_ret
            exact ⟨by rw [HT.out, if_pos ⟨q0, q1, q2, q3⟩]; rfl, Q.drewN _ _⟩
          · go_enter Tryd.func116, Tryd.ntmps116
            go_wp2_with fail
            go_ret
            exact ⟨by rw [HT.out, if_neg (by omega)]; rfl, Q.refl _⟩
        · go_enter Tryd.func116, Tryd.ntmps116
          go_wp2_with fail
          go_ret
          exact ⟨by rw [HT.out, if_neg (by omega)]; rfl, Q.refl _⟩
      · go_enter Tryd.func116, Tryd.ntmps116
        go_wp2_with fail
        go_ret
        exact ⟨by rw [HT.out, if_neg (by omega)]; rfl, Q.refl _⟩
    · go_enter Tryd.func116, Tryd.ntmps116
      go_wp2_with fail
      go_ret
      exact ⟨by rw [HT.out, if_neg (by omega)]; rfl, Q.refl _⟩

theorem tv_none {l : List UInt8} {k : Nat} (h : P20.tv l k < 0) : P20.chunk true ((l.drop k).take 2) = none := by
  unfold P20.tv at h
  cases hc : P20.chunk true ((l.drop k).take 2) with
  | none => rfl
  | some v =>
    rw [hc, Option.getD_some] at h
    have hv : 0 ≤ v := by
      have := tv_bd l k
      unfold P20.chunk at hc
      split at hc
      · rename_i hq
        injection hc with hc
        have hl := hq.2 rfl
        match hm : (l.drop k).take 2, hl with
        | [a, b], _ =>
          rw [hm] at hc hq
          simp only [List.all_cons, List.all_nil, Bool.and_true, Bool.and_eq_true, P4.isD, decide_eq_true_eq] at hq
          simp only [P4.val, P4.valFrom] at hc
          omega
      · cases hc
    omega
theorem tv_some {l : List UInt8} {k : Nat} (h : 0 ≤ P20.tv l k) : P20.chunk true ((l.drop k).take 2) = some (P20.tv l k) := by
  unfold P20.tv at h ⊢
  cases hc : P20.chunk true ((l.drop k).take 2) with
  | none => rw [hc, Option.getD_none] at h; omega
  | some v => rfl
theorem first_byte {s : ByteArray} (h : 0 < s.size) : (P4.bl s)[0]? = some (s[0]'h) := P4.bl_get s 0 h
theorem sgn_first {s : ByteArray} (acc : Int) (h : 0 < s.size) : P20.sgn (P4.bl s) acc = if ((s[0]'h).toNat : Int) = 45 then -acc else acc := by
  unfold P20.sgn
  rw [first_byte h]
  by_cases q : ((s[0]'h).toNat : Int) = 45
  · rw [if_pos q, if_pos]
    exact congrArg some (UInt8.toNat_inj.mp (by show _ = 45; omega))
  · rw [if_neg q, if_neg]
    intro e
    injection e with e
    rw [e] at q
    exact q rfl
set_option maxRecDepth 100000 in
set_option maxHeartbeats 8000000 in
theorem rnparse_any (s : ByteArray) (w : World) (hs : s.size ≤ 1000000) :
    Calls Tryd.prog 96 #[.string s] w fun e w' => e = .returned (.tuple #[.int .i64 (P20.parse (P4.bl s)).1, .int .i64 (P20.parse (P4.bl s)).2]) ∧ Q w w' := by
  obtain ⟨R, hR⟩ : ∃ R, R = P20.parse (P4.bl s) := ⟨_, rfl⟩
  rw [← hR]
  have HR : Hid (P20.fin (P4.bl s) (P20.pv true (P20.units.drop 0) 0 ((P4.bl s).drop 1)) = R) := Lib.hid hR.symm
  clear hR
  have hsz : (s.size : Int) ≤ 1000000 := by omega
  go_enter Tryd.func96, Tryd.ntmps96
  go_upto_block 0 with (fail)
  go_cut [4] (fun s4 wx => ∃ acc : Int, s4 = .int .i64 acc ∧ 0 ≤ acc ∧ acc ≤ 99 * 3661 ∧ Hid (P20.fin (P4.bl s) (some acc) = R) ∧ Q w wx)
  case first =>
    go_wp2_with fail
    go_loopw [4, 5, 6] (fun s4 s5 s6 wr => ∃ k acc : Int, (k = 0 ∨ k = 1 ∨ k = 2 ∨ k = 3) ∧ s6 = .int .i64 (1 + 2 * k) ∧ s5 = .int .i64 (if k = 0 then 3600 else if k = 1 then 60 else if k = 2 then 1 else 0) ∧ s4 = .int .i64 acc ∧ 0 ≤ acc ∧ acc ≤ 99 * 3661 ∧ (k = 0 → acc = 0) ∧ (k = 1 → acc ≤ 99 * 3600) ∧ (k = 2 → acc ≤ 99 * 3660) ∧ Hid (P20.fin (P4.bl s) (P20.pv true (P20.units.drop k.toNat) acc ((P4.bl s).drop (1 + 2 * k.toNat))) = R) ∧ Q w wr) (fun _ _ s6 _ => 7 - (intOf s6).toNat)
    case atStart => exact ⟨0, 0, .inl rfl, rfl, rfl, rfl, by omega, by omega, fun _ => rfl, by omega, by omega, HR, Q.refl _⟩
    case round =>
      clear HR
      obtain ⟨k, acc, hk, rfl, rfl, rfl, ha0, ha1, hk0, hk1, hk2, HR, hq⟩ := hrel
      rcases hk with rfl | rfl | rfl | rfl
      · have hbd : acc ≤ 0 := by have := hk0 rfl; omega
        clear hk0 hk1 hk2
        simp only [show (1 : Int) + 2 * 0 = 1 from rfl]
        by_cases h1 : 1 < s.size
        · have h1i : (1 : Int) < (s.size : Int) := by omega
          have hne : (P4.bl s).drop 1 ≠ [] := by
            intro q
            have := congrArg List.length q
            rw [List.length_drop, List.length_nil, P4.bl_len] at this
            omega
          have cU : Hid (∀ W, Calls Tryd.prog 116 #[.string s, .int .i64 1] W fun e w' => e = .returned (.int .i64 (P20.tv (P4.bl s) 1)) ∧ Q W w') := fun W => rtwo20_any s 1 1 rfl W hs (by omega)
          have hbv := tv_bd (P4.bl s) 1
          by_cases hv : P20.tv (P4.bl s) 1 < 0
          · have HG : Hid (R = (0, 5)) := Lib.hid ((HR.out.symm.trans (congrArg _ (P20.pv_stop true 3600 (P20.units.drop 1) acc _ hne (tv_none hv)))).trans rfl)
            generalize P20.tv (P4.bl s) 1 = V at cU hv hbv
            clear HR hne h1
            go_wp2_with fail
            refine (cU.out _).mono ?_
            rintro e w1 ⟨rfl, n1, rfl⟩
            clear cU
            obtain ⟨n0, rfl⟩ := hq
            go_wp2_with fail
            go_ret2
            exact ⟨by rw [HG.out]; rfl, _, rfl⟩
          · have HG : Hid (P20.fin (P4.bl s) (P20.pv true (P20.units.drop 1) (acc + P20.tv (P4.bl s) 1 * 3600) ((P4.bl s).drop (1 + 2 * 1))) = R) := by
              have q := P20.pv_go true 3600 (P20.units.drop 1) acc _ hne _ (tv_some (Int.not_lt.mp hv))
              rw [List.drop_drop] at q
              exact Lib.hid ((congrArg _ q.symm).trans HR.out)
            generalize P20.tv (P4.bl s) 1 = V at cU hv hbv HG
            clear HR hne h1
            go_wp2_with fail
            refine (cU.out _).mono ?_
            rintro e w1 ⟨rfl, n1, rfl⟩
            clear cU
            obtain ⟨n0, rfl⟩ := hq
            go_wp2_with fail
            go_roundw
            case rel => exact ⟨1, acc + V * 3600, by omega, by go_num, by go_num, by go_num, by omega, by omega, by omega, by omega, by omega, HG, _, by first | rfl | rw [World.drewN_drewN]⟩
            case measure => simp [intOf]
        · have h1i : (s.size : Int) ≤ 1 := by omega
          have HG : Hid (P20.fin (P4.bl s) (some acc) = R) := by
            have q : (P4.bl s).drop (1 + 2 * 0) = [] := List.drop_eq_nil_of_le (by rw [P4.bl_len]; omega)
            have q2 : P20.pv true (P20.units.drop 0) acc ((P4.bl s).drop (1 + 2 * 0)) = some acc := by rw [q]; exact P20.pv_nil _ _ _
            exact Lib.hid ((congrArg _ q2.symm).trans HR.out)
          clear HR h1
          go_wp2_with fail
          go_meet
          exact ⟨acc, rfl, ha0, ha1, HG, hq⟩
      · have hbd : acc ≤ 356400 := by exact hk1 rfl
        clear hk0 hk1 hk2
        simp only [show (1 : Int) + 2 * 1 = 3 from rfl]
        by_cases h1 : 3 < s.size
        · have h1i : (3 : Int) < (s.size : Int) := by omega
          have hne : (P4.bl s).drop 3 ≠ [] := by
            intro q
            have := congrArg List.length q
            rw [List.length_drop, List.length_nil, P4.bl_len] at this
            omega
          have cU : Hid (∀ W, Calls Tryd.prog 116 #[.string s, .int .i64 3] W fun e w' => e = .returned (.int .i64 (P20.tv (P4.bl s) 3)) ∧ Q W w') := fun W => rtwo20_any s 3 3 rfl W hs (by omega)
          have hbv := tv_bd (P4.bl s) 3
          by_cases hv : P20.tv (P4.bl s) 3 < 0
          · have HG : Hid (R = (0, 5)) := Lib.hid ((HR.out.symm.trans (congrArg _ (P20.pv_stop true 60 (P20.units.drop 2) acc _ hne (tv_none hv)))).trans rfl)
            generalize P20.tv (P4.bl s) 3 = V at cU hv hbv
            clear HR hne h1
            go_wp2_with fail
            refine (cU.out _).mono ?_
            rintro e w1 ⟨rfl, n1, rfl⟩
            clear cU
            obtain ⟨n0, rfl⟩ := hq
            go_wp2_with fail
            go_ret2
            exact ⟨by rw [HG.out]; rfl, _, rfl⟩
          · have HG : Hid (P20.fin (P4.bl s) (P20.pv true (P20.units.drop 2) (acc + P20.tv (P4.bl s) 3 * 60) ((P4.bl s).drop (1 + 2 * 2))) = R) := by
              have q := P20.pv_go true 60 (P20.units.drop 2) acc _ hne _ (tv_some (Int.not_lt.mp hv))
              rw [List.drop_drop] at q
              exact Lib.hid ((congrArg _ q.symm).trans HR.out)
            generalize P20.tv (P4.bl s) 3 = V at cU hv hbv HG
            clear HR hne h1
            go_wp2_with fail
            refine (cU.out _).mono ?_
            rintro e w1 ⟨rfl, n1, rfl⟩
            clear cU
            obtain ⟨n0, rfl⟩ := hq
            go_wp2_with fail
            go_roundw
            case rel => exact ⟨2, acc + V * 60, by omega, by go_num, by go_num, by go_num, by omega, by omega, by omega, by omega, by omega, HG, _, by first | rfl | rw [World.drewN_drewN]⟩
            case measure => simp [intOf]
        · have h1i : (s.size : Int) ≤ 3 := by omega
          have HG : Hid (P20.fin (P4.bl s) (some acc) = R) := by
            have q : (P4.bl s).drop (1 + 2 * 1) = [] := List.drop_eq_nil_of_le (by rw [P4.bl_len]; omega)
            have q2 : P20.pv true (P20.units.drop 1) acc ((P4.bl s).drop (1 + 2 * 1)) = some acc := by rw [q]; exact P20.pv_nil _ _ _
            exact Lib.hid ((congrArg _ q2.symm).trans HR.out)
          clear HR h1
          go_wp2_with fail
          go_meet
          exact ⟨acc, rfl, ha0, ha1, HG, hq⟩
      · have hbd : acc ≤ 362340 := by exact hk2 rfl
        clear hk0 hk1 hk2
        simp only [show (1 : Int) + 2 * 2 = 5 from rfl]
        by_cases h1 : 5 < s.size
        · have h1i : (5 : Int) < (s.size : Int) := by omega
          have hne : (P4.bl s).drop 5 ≠ [] := by
            intro q
            have := congrArg List.length q
            rw [List.length_drop, List.length_nil, P4.bl_len] at this
            omega
          have cU : Hid (∀ W, Calls Tryd.prog 116 #[.string s, .int .i64 5] W fun e w' => e = .returned (.int .i64 (P20.tv (P4.bl s) 5)) ∧ Q W w') := fun W => rtwo20_any s 5 5 rfl W hs (by omega)
          have hbv := tv_bd (P4.bl s) 5
          by_cases hv : P20.tv (P4.bl s) 5 < 0
          · have HG : Hid (R = (0, 5)) := Lib.hid ((HR.out.symm.trans (congrArg _ (P20.pv_stop true 1 (P20.units.drop 3) acc _ hne (tv_none hv)))).trans rfl)
            generalize P20.tv (P4.bl s) 5 = V at cU hv hbv
            clear HR hne h1
            go_wp2_with fail
            refine (cU.out _).mono ?_
            rintro e w1 ⟨rfl, n1, rfl⟩
            clear cU
            obtain ⟨n0, rfl⟩ := hq
            go_wp2_with fail
            go_ret2
            exact ⟨by rw [HG.out]; rfl, _, rfl⟩
          · have HG : Hid (P20.fin (P4.bl s) (P20.pv true (P20.units.drop 3) (acc + P20.tv (P4.bl s) 5 * 1) ((P4.bl s).drop (1 + 2 * 3))) = R) := by
              have q := P20.pv_go true 1 (P20.units.drop 3) acc _ hne _ (tv_some (Int.not_lt.mp hv))
              rw [List.drop_drop] at q
              exact Lib.hid ((congrArg _ q.symm).trans HR.out)
            generalize P20.tv (P4.bl s) 5 = V at cU hv hbv HG
            clear HR hne h1
            go_wp2_with fail
            refine (cU.out _).mono ?_
            rintro e w1 ⟨rfl, n1, rfl⟩
            clear cU
            obtain ⟨n0, rfl⟩ := hq
            go_wp2_with fail
            go_roundw
            case rel => exact ⟨3, acc + V * 1, by omega, by go_num, by go_num, by go_num, by omega, by omega, by omega, by omega, by omega, HG, _, by first | rfl | rw [World.drewN_drewN]⟩
            case measure => simp [intOf]
        · have h1i : (s.size : Int) ≤ 5 := by omega
          have HG : Hid (P20.fin (P4.bl s) (some acc) = R) := by
            have q : (P4.bl s).drop (1 + 2 * 2) = [] := List.drop_eq_nil_of_le (by rw [P4.bl_len]; omega)
            have q2 : P20.pv true (P20.units.drop 2) acc ((P4.bl s).drop (1 + 2 * 2)) = some acc := by rw [q]; exact P20.pv_nil _ _ _
            exact Lib.hid ((congrArg _ q2.symm).trans HR.out)
          clear HR h1
          go_wp2_with fail
          go_meet
          exact ⟨acc, rfl, ha0, ha1, HG, hq⟩
      · have HG : Hid (P20.fin (P4.bl s) (some acc) = R) := Lib.hid HR.out
        clear HR hk0 hk1 hk2
        simp only [show (1 : Int) + 2 * 3 = 7 from rfl]
        by_cases h7 : (7 : Int) < (s.size : Int)
        · go_wp2_with fail
          go_meet
          exact ⟨acc, rfl, ha0, ha1, HG, hq⟩
        · go_wp2_with fail
          go_meet
          exact ⟨acc, rfl, ha0, ha1, HG, hq⟩
  case rest =>
    obtain ⟨acc, rfl, ha0, ha1, HG, n0, rfl⟩ := hcut
    clear HR
    by_cases hz : s.size = 0
    · have hP : R = (0, 5) := by
        have : P4.bl s = [] := List.length_eq_zero_iff.mp (by rw [P4.bl_len]; exact hz)
        rw [← HG.out, this]; exact P20.fin_empty _
      have hnil : s.toList = [] := by rw [ByteArray.toList_eq]; exact List.length_eq_zero_iff.mp (by have := P4.bl_len s; rw [← this] at hz; exact hz)
      have hzi : (s.size : Int) ≤ 0 := by omega
      have HP := Lib.hid hP
      clear hP HG hz
      go_wp2_with fail
      go_ret2
      exact ⟨by rw [HP.out]; rfl, Q.drewN _ _⟩
    · have hzp : 0 < s.size := by omega
      have hzi : (0 : Int) < (s.size : Int) := by omega
      obtain ⟨n1, n2⟩ := s_ne hzp
      have hne : P4.bl s ≠ [] := fun q => hz (by rw [← P4.bl_len, q]; rfl)
      have hsg := sgn_first (s := s) acc hzp
      obtain ⟨c, hc⟩ : ∃ c : Int, ((s[0]'hzp).toNat : Int) = c := ⟨_, rfl⟩
      rw [hc] at hsg
      have hC : ∀ h, ((s[0]'h).toNat : Int) = c := fun _ => hc
      clear hz hc
      by_cases h45 : c = 45
      · have hb : (c == 45) = true := by rw [beq_iff_eq]; exact h45
        have hy : P20.sgn (P4.bl s) acc = (-acc) := by rw [hsg, if_pos h45]
        have cT : Hid (∀ W, Calls Tryd.prog 67 #[.int .i64 (-acc)] W fun e w' => e = .returned (.string (str (P20.text (-acc)))) ∧ Q W w') := fun W => rtext_any (-acc) W (by omega) (by omega)
        clear h45 hsg
        by_cases he : P20.text (-acc) = P4.bl s
        · have HP := Lib.hid (HG.out.symm.trans (P20.fin_eq hne hy he))
          have hse : str (P20.text (-acc)) = s := by rw [he]; rfl
          rw [hse] at cT
          clear hne HG hy he hse
          go_wp2_with fail
          refine (cT.out _).mono ?_
          rintro e w2 ⟨rfl, m2, rfl⟩
          clear cT
          go_wp2_with fail
          go_ret2
          exact ⟨by rw [HP.out]; rfl, _, by first | rfl | rw [World.drewN_drewN]⟩
        · have HP := Lib.hid (HG.out.symm.trans (P20.fin_ne hy he))
          have hse : ¬ str (P20.text (-acc)) = s := fun q => he (by rw [← q]; rfl)
          have e1 := eq_b _ _ hse
          have e2 := ne_b _ _ hse
          clear hne HG hy he hse
          generalize str (P20.text (-acc)) = T at cT e1 e2
          go_wp2_with fail
          refine (cT.out _).mono ?_
          rintro e w2 ⟨rfl, m2, rfl⟩
          clear cT
          go_wp2_with fail
          go_ret2
          exact ⟨by rw [HP.out]; rfl, _, by first | rfl | rw [World.drewN_drewN]⟩
      · have hb : (c == 45) = false := by rw [beq_eq_false_iff_ne]; exact h45
        have hy : P20.sgn (P4.bl s) acc = acc := by rw [hsg, if_neg h45]
        have cT : Hid (∀ W, Calls Tryd.prog 67 #[.int .i64 acc] W fun e w' => e = .returned (.string (str (P20.text acc))) ∧ Q W w') := fun W => rtext_any acc W (by omega) (by omega)
        clear h45 hsg
        by_cases he : P20.text acc = P4.bl s
        · have HP := Lib.hid (HG.out.symm.trans (P20.fin_eq hne hy he))
          have hse : str (P20.text acc) = s := by rw [he]; rfl
          rw [hse] at cT
          clear hne HG hy he hse
          go_wp2_with fail
          refine (cT.out _).mono ?_
          rintro e w2 ⟨rfl, m2, rfl⟩
          clear cT
          go_wp2_with fail
          go_ret2
          exact ⟨by rw [HP.out]; rfl, _, by first | rfl | rw [World.drewN_drewN]⟩
        · have HP := Lib.hid (HG.out.symm.trans (P20.fin_ne hy he))
          have hse : ¬ str (P20.text acc) = s := fun q => he (by rw [← q]; rfl)
          have e1 := eq_b _ _ hse
          have e2 := ne_b _ _ hse
          clear hne HG hy he hse
          generalize str (P20.text acc) = T at cT e1 e2
          go_wp2_with fail
          refine (cT.out _).mono ?_
          rintro e w2 ⟨rfl, m2, rfl⟩
          clear cT
          go_wp2_with fail
          go_ret2
          exact ⟨by rw [HP.out]; rfl, _, by first | rfl | rw [World.drewN_drewN]⟩
end Go.Proofs.YtbajlkpjemandaaDoor
