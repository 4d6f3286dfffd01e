/- The law WordMore (chapter 8), walked. -/
import Derived.Test.YtggdfgdnpicepaaDoorLaws8b0
namespace Go.Proofs.YtggdfgdnpicepaaDoor
open Go.RowKit Go.Proofs
set_option linter.unusedVariables false
set_option linter.unusedSimpArgs false

theorem listOf_mem (k : Nat) (hk : k < 4) : (listOf k, firstOf k) ∈ P8.lists := by
  match k, hk with
  | 0, _ => decide
  | 1, _ => decide
  | 2, _ => decide
  | 3, _ => decide
theorem listOf_len (k : Nat) (hk : k < 4) : 0 < (listOf k).length ∧ (listOf k).length ≤ 12 := by
  match k, hk with
  | 0, _ => decide
  | 1, _ => decide
  | 2, _ => decide
  | 3, _ => decide
theorem firstOf_le (k : Nat) : 0 ≤ firstOf k ∧ firstOf k ≤ 1 := by
  match k with
  | 0 => decide
  | 1 => decide
  | 2 => decide
  | 3 => decide
  | k + 4 => exact ⟨by unfold firstOf; rw [List.getElem?_eq_none (by rw [show P8.lists.length = 4 from rfl]; omega)]; decide, by unfold firstOf; rw [List.getElem?_eq_none (by rw [show P8.lists.length = 4 from rfl]; omega)]; decide⟩
theorem rest_of {n : Int} {m : Nat} (h : 0 ≤ n ∧ n ≤ 255) (hm : 0 < m ∧ m ≤ 1000) : ∃ i : Nat, i < m ∧ n.tmod (m : Int) = (i : Int) := by
  refine ⟨(n % (m : Int)).toNat, ?_, ?_⟩
  · have h1 := Int.emod_lt_of_pos n (show (0 : Int) < m by omega)
    have h2 := Int.emod_nonneg n (show (m : Int) ≠ 0 by omega)
    omega
  · rw [Int.tmod_eq_emod_of_nonneg h.1]
    have h2 := Int.emod_nonneg n (show (m : Int) ≠ 0 by omega)
    omega
theorem small64 (n : Int) (h : 0 ≤ n ∧ n ≤ 100000) : wrap64 n = n := by unfold wrap64; omega
theorem low_word {q : List (List UInt8) × Int} (hq : q ∈ P8.lists) {i : Nat} (hi : i < q.1.length) : ∀ c ∈ P8.word q.1 i, 97 ≤ c ∧ c ≤ 122 := by
  have h := P8.all_small q hq (P8.word q.1 i) (by unfold P8.word; rw [List.getElem?_eq_getElem hi]; exact List.getElem_mem hi)
  exact h
theorem map_low_small {l : List UInt8} (h : ∀ c ∈ l, 97 ≤ c ∧ c ≤ 122) : l.map P8.low = l := by
  induction l with
  | nil => rfl
  | cons c l ih => rw [List.map_cons, P8.low_small c (h c (by simp)), ih (fun x hx => h x (by simp [hx]))]
theorem num_not {first : Int} {l w : List UInt8} {L : List (List UInt8)} (hl : l.map P8.low = w) (h : (P8.find w L).2 = false) : P8.num first l L = (0, 8) := by
  rw [num_pair, hl, h]; rfl
set_option maxRecDepth 100000 in
set_option maxHeartbeats 8000000 in
theorem walkWordMore (a0 a1 a2 a3 : Int) (w : World) (h0 : (Lit.int .u8 a0).wf = true) (h1 : (Lit.int .u8 a1).wf = true) (h2 : (Lit.int .u8 a2).wf = true) (h3 : (Lit.int .u8 a3).wf = true) (hv : Vars8 w) :
    Calls Tryd.prog 12 #[.int .u8 a0, .int .u8 a1, .int .u8 a2, .int .u8 a3] w fun e w' => e = .returned (.bool true) ∧ Below w.heap.size w w' := by
  have b0 := u8_bounds h0
  have b1 := u8_bounds h1
  have b2 := u8_bounds h2
  have b3 := u8_bounds h3
  clear h0 h1 h2 h3
  obtain ⟨k, hk, m0⟩ := rest_of (m := 4) b0 (by decide)
  have M0 := Lib.hid m0
  clear m0
  have hq := listOf_mem k hk
  have hfo := firstOf_le k
  have hfind := fun (s : ByteArray) W hs hv => find_call k hk s W hs hv
  have hent := fn_enters k hk
  have hlen := listOf_len k hk
  have LS : Hid (∀ W B g, Lists W B g → W.cell? ⟨B, k * 3, none⟩ = some (.slice (some ⟨g + k, 0, none⟩) (listOf k).length (listOf k).length) ∧ W.cell? ⟨B, k * 3 + 1, none⟩ = some (.func (.func (fnOf k)) #[] #[]) ∧ W.cell? ⟨B, k * 3 + 2, none⟩ = some (.int .i64 (firstOf k)) ∧ Rd W (g + k) (wcells (listOf k))) := Lib.hid (fun W B g h => h k hk)
  generalize hL : listOf k = L at hq hfind hlen LS
  generalize hF : firstOf k = first at hq hfind hfo LS
  generalize hN : fnOf k = f at hfind hent LS
  clear hL hF hN
  obtain ⟨i, hi, m1⟩ := rest_of (m := L.length) b1 ⟨hlen.1, by omega⟩
  have M1 := Lib.hid m1
  clear m1
  have hwl := P8.word_len _ hq i hi
  have hws := low_word hq hi
  have hmf := fun k hk c => P8.more_find hq (i := i) (k := k) hi hk c
  simp only at hwl hws hmf
  generalize hWd : P8.word L i = Wd at hwl hws hmf
  obtain ⟨j, hj, m2⟩ := rest_of (m := Wd.length + 1) b2 ⟨by omega, by omega⟩
  have M2 := Lib.hid m2
  clear m2
  obtain ⟨c, hc⟩ : ∃ c : UInt8, a3 = (c.toNat : Int) := ⟨UInt8.ofNat a3.toNat, by rw [UInt8.toNat_ofNat_of_lt' (by show a3.toNat < 256; omega)]; omega⟩
  subst hc
  have hnum : P8.num first (Wd.take j ++ [c] ++ Wd.drop j) L = (0, 8) := by
    refine num_not (w := Wd.take j ++ [P8.low c] ++ Wd.drop j) ?_ (hmf j (by omega) (P8.low c))
    rw [List.map_append, List.map_append, map_low_small (fun c hc => hws c (List.mem_of_mem_take hc)), map_low_small (fun c hc => hws c (List.mem_of_mem_drop hc))]
    rfl
  have hcall : ∀ W, Vars8 W → Calls Tryd.prog f #[.string (str (Wd.take j ++ [c] ++ Wd.drop j))] W fun e w' => e = .returned (.tuple #[.int .i64 0, .int .i64 8]) ∧ Below W.heap.size W w' := fun W h => by
    have q := hfind (str (Wd.take j ++ [c] ++ Wd.drop j)) W (by rw [str_size]; simp; omega) h
    rw [str_data, hnum] at q
    exact q
  have v0 : 0 ≤ a0 ∧ a0 ≤ 100000 := by omega
  have v1 : 0 ≤ a1 ∧ a1 ≤ 100000 := by omega
  have v2 : 0 ≤ a2 ∧ a2 ≤ 100000 := by omega
  have v3 : 0 ≤ (Wd.length : Int) + 1 ∧ (Wd.length : Int) + 1 ≤ 100000 := by omega
  have y0 : (k : Int) < 4 := by omega
  have y1 : (i : Int) < (L.length : Int) := by omega
  have y2 : (j : Int) ≤ (Wd.length : Int) := by omega
  have z0 : (0 : Int) ≤ (k : Int) := by omega
  have z1 : (0 : Int) ≤ (i : Int) := by omega
  have z2 : (0 : Int) ≤ (j : Int) := by omega
  have z3 : ¬ (L.length : Int) = 0 := by omega
  have z4 : ¬ ((Wd.length : Int) + 1) = 0 := by omega
  have hsz := str_size Wd
  obtain ⟨P, hP⟩ : ∃ P, Wd.take j ++ [c] = P := ⟨_, rfl⟩
  obtain ⟨R, hR⟩ : ∃ R, P ++ Wd.drop j = R := ⟨_, rfl⟩
  have hPl : P.length ≤ 11 := by rw [← hP]; simp; omega
  have q1 : ∀ W, (Op.stringOp .add ((str Wd).extract 0 j) (str [c])).run Tryd.prog W = .ok (.string (str P)) W := fun W => by
    have e1 : (str Wd).extract 0 j = str (Wd.take j) := str_cut Wd 0 j
    rw [e1, run_string_add_sum (w := W) _ _ (by rw [str_size, str_size]; simp; omega), str_append, hP]
  have q2 : ∀ W, (Op.stringOp .add (str P) ((str Wd).extract j Wd.length)).run Tryd.prog W = .ok (.string (str R)) W := fun W => by
    have e2 : (str Wd).extract j Wd.length = str (Wd.drop j) := by rw [str_cut, List.take_of_length_le (by simp)]
    rw [e2, run_string_add_sum (w := W) _ _ (by rw [str_size, str_size]; simp; omega), str_append, hR]
  have hcv := conv_byte (c.toNat : Int)
  have hp : (ByteArray.empty.push (UInt8.ofNat (c.toNat : Int).toNat)) = str [c] := by
    have : UInt8.ofNat (c.toNat : Int).toNat = c := by
      apply UInt8.toNat_inj.1
      simp
    rw [this]; rfl
  rw [hp] at hcv
  rw [hP, hR] at hcall
  have x0 := small64 _ v0
  have x1 := small64 _ v1
  have x2 := small64 _ v2
  have x3 := small64 _ v3
  clear v0 v1 v2 v3
  have m0 : a0.tmod 4 = (k : Int) := M0.out
  have m1 : a1.tmod (L.length : Int) = (i : Int) := M1.out
  have m2 : a2.tmod ((Wd.length : Int) + 1) = (j : Int) := M2.out
  have hb := Below.refl w.heap.size w
  have HV := Lib.hid hv; have HCL := Lib.hid hcall
  have HWG : Hid (wcells L = wcells L ∧ P8.word L i = Wd ∧ i < L.length) := Lib.hid ⟨rfl, hWd, hi⟩
  clear hv hcall hfind hmf hws hwl hq hlen b0 b1 b2 b3 hfo M0 M1 M2 hWd hi hk hj hnum hP hR hPl hp
  go_enter Tryd.func12, Tryd.ntmps12
  go_wp2_with fail
  refine (lists_any _).mono ?_
  rintro e w1 ⟨rfl, hl, h9⟩
  obtain ⟨c0, c1, c2, hr⟩ := LS.out _ _ _ hl
  replace hb := hb.trans (h9.mono hb.size)
  have dr := hr.cell i _ (wcells_get L i HWG.out.2.2)
  rw [HWG.out.2.1] at dr
  have hlt := hr.lt
  obtain ⟨g, hg⟩ : ∃ g, w.heap.size + k = g := ⟨_, rfl⟩
  rw [hg] at c0 dr hlt
  have nb := Blk.new w1 77 #[.slice (some ⟨g, 0, none⟩) L.length L.length, .func (.func f) #[] #[], .int .i64 first]
  have d0 := (nb.cell 0).trans rfl
  have d1 := (nb.cell 1).trans rfl
  have d2 := (nb.cell 2).trans rfl
  have dr2 := (Below.cell ((Below.refl w1.heap.size w1).alloc (Nat.le_refl _) (.cells #[.slice (some ⟨g, 0, none⟩) L.length L.length, .func (.func f) #[] #[], .int .i64 first] 77)) (p := ⟨g, i, none⟩) hlt).trans dr
  replace hb := hb.alloc hb.size (.cells #[.slice (some ⟨g, 0, none⟩) L.length L.length, .func (.func f) #[] #[], .int .i64 first] 77)
  have HNB := Lib.hid nb
  clear hl h9 hr hg hlt nb dr
  go_wp2_with fail
  generalize w1.alloc (.cells #[.slice (some ⟨g, 0, none⟩) L.length L.length, .func (.func f) #[] #[], .int .i64 first] 77) = W2 at *
  clear c0 c1 c2
  go_quiet (fail)
  go_wp2_with fail
  generalize hq3 : W2.drewN nq = W3
  have e1 : W3.cell? ⟨w1.heap.size, 1, none⟩ = some (.func (.func f) #[] #[]) := by rw [← hq3]; exact d1
  have hb3 : Below w.heap.size w W3 := by rw [← hq3]; exact below_drewN hb nq
  have hlt3 : w1.heap.size < W3.heap.size := by rw [← hq3]; exact HNB.out.lt
  clear hq3 d0 d1 d2 dr2 hb
  have e2 := (Below.cell (((Below.refl W3.heap.size W3).alloc (Nat.le_refl _) (.cells #[.int .u8 (c.toNat : Int)] 5)).drew) (p := ⟨w1.heap.size, 1, none⟩) hlt3).trans e1
  have hb := (hb3.alloc hb3.size (.cells #[.int .u8 (c.toNat : Int)] 5)).drew
  clear hb3
  go_region
  go_wp2_with fail
  refine (HCL.out _ (HV.out.below hb)).mono ?_
  rintro e w5 ⟨rfl, h9⟩
  replace hb := hb.trans (h9.mono hb.size)
  clear h9 e2
  go_wp2_with fail
  refine (works8_any _ (HV.out.below hb)).mono ?_
  rintro e w6 ⟨rfl, h9⟩
  replace hb := hb.trans (h9.mono hb.size)
  clear h9
  go_wp2_with fail
  go_ret
  exact ⟨rfl, hb⟩
end Go.Proofs.YtggdfgdnpicepaaDoor
