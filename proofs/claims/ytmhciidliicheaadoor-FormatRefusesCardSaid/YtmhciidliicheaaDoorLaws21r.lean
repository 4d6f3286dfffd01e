/- The walk of the law FormatRefuses (chapter 21). -/
import Derived.Test.YtmhciidliicheaaDoorLaws21s
import Derived.Deep.AppendLies
namespace Go.Proofs.YtmhciidliicheaaDoor
open Go.RowKit Go.Lib
set_option linter.unusedVariables false

theorem kind0_abbr {f : List UInt8} (h : P21.kind f = 0) (o s : Int) (lt : List UInt8) : P21.abbrv f o s lt = ([], 15) := by
  unfold P21.abbrv
  have ht : P21.two f = false := by unfold P21.two; rw [h]; simp
  rw [if_neg (by rw [ht]; decide), if_neg (by rw [h]; decide), if_neg (by rw [h]; decide), if_pos h]
theorem kind0_check {f : List UInt8} (h : P21.kind f = 0) (o kd s : Int) (ls : List (List UInt8)) (sv : List Int) : P21.check f o kd s ls sv = 15 := by unfold P21.check; rw [if_pos h]
def f9 : List ByteArray := [⟨#[]⟩, ⟨#[88]⟩, ⟨#[65, 66, 47, 67, 68]⟩, ⟨#[37, 122, 37, 122]⟩, ⟨#[43, 49]⟩, ⟨#[37, 115, 37, 115]⟩, ⟨#[67, 69, 84, 47]⟩, ⟨#[43, 50, 53]⟩, ⟨#[45, 48, 48]⟩]
theorem f9_kind : ∀ t ∈ f9, P21.kind (P4.bl t) = 0 ∧ t.size ≤ 10 := by
  unfold f9
  simp only [List.forall_mem_cons]
  refine ⟨?_, ?_, ?_, ?_, ?_, ?_, ?_, ?_, ?_, fun _ h => by cases h⟩ <;> decide +kernel
/-- a rule with another letter -/
def letR (b : ByteArray) (r : RV) : RV := { r with letter := b }
theorem r17_let (b : ByteArray) : ∀ (L : List RV) (k : Nat) (r : RV), L[k]? = some r → r17 (L.set k (letR b r)) = (r17 L).set (k * 11 + 10) (.string b)
  | [], k, r, h => by simp at h
  | a :: L, 0, r, h => by
    rw [List.getElem?_cons_zero] at h
    injection h with h
    subst h
    rfl
  | a :: L, k + 1, r, h => by
    rw [List.getElem?_cons_succ] at h
    have ih := r17_let b L k r h
    show a.cells ++ r17 (L.set k _) = (a.cells ++ r17 L).set ((k + 1) * 11 + 10) _
    rw [ih, List.set_append_right _ _ (by show 11 ≤ _; omega)]
    congr 2
    show _ = (k + 1) * 11 + 10 - 11
    omega
theorem svs_let (b : ByteArray) (L : List RV) (k : Nat) (r : RV) (h : L[k]? = some r) : svs (L.set k (letR b r)) = svs L := by
  unfold svs
  rw [List.map_set]
  refine List.ext_getElem? fun j => ?_
  rw [List.getElem?_set]
  by_cases e : k = j
  · subst e
    have hk := (List.getElem?_eq_some_iff.mp h).1
    rw [if_pos rfl, List.length_map, if_pos hk, List.getElem?_map, h]; rfl
  · rw [if_neg e]
theorem cells17_of {W : World} {B : Nat} {L : List RV} (hR : RulesIn W (some ⟨B, 0, none⟩) L) : ∀ (j : Nat) u, (r17 L)[j]? = some u → W.cell? ((⟨B, 0, none⟩ : Addr).add j) = some u := by
  intro j u hu
  rw [add_zero_off]
  have hj : j < L.length * 11 := by have := (List.getElem?_eq_some_iff.mp hu).1; rwa [r17_len] at this
  have hk : j / 11 < L.length := by omega
  obtain ⟨r, hr⟩ : ∃ r, L[j / 11]? = some r := ⟨_, List.getElem?_eq_getElem hk⟩
  have hf := flat_at (f := RV.cells) (m := 11) (fun _ => rfl) L (j / 11) (j % 11) r (Nat.mod_lt _ (by decide)) hr
  rw [show j / 11 * 11 + j % 11 = j by omega] at hf
  obtain ⟨b, o, hA, _, hc⟩ := hR (j / 11) r hr
  injection hA with hA
  injection hA with h1 h2 _
  subst h1 h2
  have q := hc (j % 11) u (hf.symm.trans hu)
  rwa [show 0 + j / 11 * 11 + j % 11 = j by omega] at q
theorem r17_ones (L : List RV) : ∀ u ∈ r17 L, u.oneCell' = true := by
  intro u hu
  unfold r17 at hu
  obtain ⟨r, _, h⟩ := List.mem_flatMap.1 hu
  exact cells_one r u h
theorem own_pass {w w' : World} {base n size : Nat} {e : TypeId} {v : Value} {xs : List Value} {b : Option Nat} (h : w.ownsRow base e size v n xs) (hg : w.grownBy w' b) (hne : ∀ g, v.ownBlock = some g → b ≠ some g) : w'.ownsRow base e size v n xs := by
  refine ⟨h.1, ?_⟩
  rcases h.2 with q | ⟨g, cap, cur, hv, hbg, hh, q⟩
  · exact .inl q
  · refine .inr ⟨g, cap, cur, hv, hbg, ?_, q⟩
    have hlt := (h.lt g (by rw [hv]; rfl)).2
    rw [hg.block g hlt fun e => hne g (by rw [hv]; rfl) e.symm]; exact hh
theorem own_far_ne {w : World} {base n size g cap g' i : Nat} {e : TypeId} {xs : List Value} (h : w.ownsRow base e size (.slice (some ⟨g, 0, none⟩) n cap) n xs) (hg : g ≠ g') (u : Value) : (w.setCell ⟨g', i, none⟩ u).ownsRow base e size (.slice (some ⟨g, 0, none⟩) n cap) n xs :=
  own_pass h (b := some g') ⟨rfl, rfl, rfl, by simp, fun k _ hk => Below.heap_setCell w ⟨g', i, none⟩ u k (fun q => hk (by rw [q]))⟩ (fun q hq e => by
    have : some g = some q := hq
    injection this with this
    injection e with e
    exact hg (this.trans e.symm))
theorem own_far21 {w : World} {base n size : Nat} {e : TypeId} {v : Value} {xs : List Value} (h : w.ownsRow base e size v n xs) {p : Addr} (hp : p.block < base) (u : Value) : (w.setCell p u).ownsRow base e size v n xs :=
  own_pass h (b := some p.block) ⟨rfl, rfl, rfl, by simp, fun k _ hk => Below.heap_setCell w p u k (fun q => hk (by rw [q]))⟩ (fun g hg e => by
    have h1 := (h.lt g hg).1
    injection e with e
    omega)
theorem rules17_at {w : World} {base n g c : Nat} {L : List RV} (h : w.ownsRow base 38 11 (.slice (some ⟨g, 0, none⟩) n c) n (r17 L)) (hn : n = L.length) (h0 : 0 < n) : RulesIn w (some ⟨g, 0, none⟩) L := by
  obtain ⟨B, c', hv, _, _, _, hR⟩ := rules_of_own17 h hn h0
  injection hv with h1 _ _
  rw [h1]; exact hR
theorem rkA : P21.kind [67, 69, 37, 115, 84] = 3 ∧ P21.pct [67, 69, 37, 115, 84] = ([67, 69], [84], true) := by decide +kernel
theorem rkB : P21.kind [67, 69, 83, 37, 115, 84] = 3 ∧ P21.pct [67, 69, 83, 37, 115, 84] = ([67, 69, 83], [84], true) := by decide +kernel
theorem rkC : P21.kind [69, 37, 115] = 3 ∧ P21.pct [69, 37, 115] = ([69], [], true) := by decide +kernel
theorem rkD : P21.kind [69, 37, 115, 84] = 3 ∧ P21.pct [69, 37, 115, 84] = ([69], [84], true) := by decide +kernel
theorem check3 {f a b : List UInt8} {ls : List (List UInt8)} (hk : P21.kind f = 3) (hp : P21.pct f = (a, b, true)) (o s : Int) (sv : List Int) : P21.check f o 2 s ls sv = if (ls.all fun x => P21.abbr (a ++ x ++ b)) = true then 0 else 15 := by
  unfold P21.check
  rw [hk, if_neg (by decide), if_pos rfl, hp, if_pos rfl]
theorem big_abbr {n s : Int} (h : n + s ≤ -86400 ∨ 86400 ≤ n + s) : P21.abbrv [37, 122] n s [] = ([], 15) := by
  have ht : P21.two [37, 122] = false := by decide +kernel
  unfold P21.abbrv
  rw [if_neg (by rw [ht]; decide), if_neg (by rw [P21.kind_z]; decide), if_pos P21.kind_z, P20.text_out h]; rfl
section
variable {D : List Int} {L : List RV} (hg : P17.Good D ⟨#[82]⟩ L)
include hg
theorem lets_long {r : RV} (hr : L[0]? = some r) : ∀ x ∈ lets (L.set 0 (letR ⟨#[65, 66, 67]⟩ r)), x = [] ∨ x = [83] ∨ x = [68] ∨ x = [68, 84] ∨ x = [65, 66, 67] := by
  intro x hx
  unfold lets at hx
  obtain ⟨q, hq, rfl⟩ := List.mem_map.1 hx
  rcases List.mem_or_eq_of_mem_set hq with h | h
  · have := hg.lets (P4.bl q.letter) (List.mem_map.2 ⟨q, h, rfl⟩)
    rcases this with h | h | h | h
    · exact .inl h
    · exact .inr (.inl h)
    · exact .inr (.inr (.inl h))
    · exact .inr (.inr (.inr (.inl h)))
  · rw [h]; exact .inr (.inr (.inr (.inr rfl)))
theorem chkA21 {r : RV} (hr : L[0]? = some r) (o : Int) (sv : List Int) : P21.check [67, 69, 37, 115, 84] o 2 0 (lets (L.set 0 (letR ⟨#[65, 66, 67]⟩ r))) sv = 0 := by
  rw [check3 rkA.1 rkA.2, if_pos]
  rw [List.all_eq_true]
  intro x hx
  rcases lets_long hg hr x hx with rfl | rfl | rfl | rfl | rfl <;> decide +kernel
omit hg in
theorem set_mem {b : ByteArray} {k : Nat} {r : RV} (hr : L[k]? = some r) : P4.bl b ∈ lets (L.set k (letR b r)) := by
  have hk := (List.getElem?_eq_some_iff.mp hr).1
  unfold lets
  refine List.mem_map.2 ⟨letR b r, ?_, rfl⟩
  exact List.mem_of_getElem? (by rw [List.getElem?_set_self hk])
omit hg in
theorem chkB21 {r : RV} (hr : L[0]? = some r) (o : Int) (sv : List Int) : P21.check [67, 69, 83, 37, 115, 84] o 2 0 (lets (L.set 0 (letR ⟨#[65, 66, 67]⟩ r))) sv = 15 := by
  rw [check3 rkB.1 rkB.2, if_neg]
  rw [List.all_eq_true]
  intro h
  have := h _ (set_mem hr)
  revert this; decide +kernel
omit hg in
theorem chkC21 {k : Nat} {r : RV} (hr : L[k]? = some r) (o : Int) (sv : List Int) : P21.check [69, 37, 115] o 2 0 (lets (L.set k (letR ⟨#[]⟩ r))) sv = 15 := by
  rw [check3 rkC.1 rkC.2, if_neg]
  rw [List.all_eq_true]
  intro h
  have := h _ (set_mem hr)
  revert this; decide +kernel
end
theorem chkD21 (o : Int) : P21.check [69, 37, 115, 84] o 0 0 [] [] = 15 := by
  unfold P21.check
  rw [rkD.1, if_neg (by decide), if_pos rfl, rkD.2]
  rfl
/-- the rules of such a set, a letter altered -/
theorem let_ok {D : List Int} {L : List RV} (hg : P17.Good D ⟨#[82]⟩ L) {k : Nat} {r : RV} {b : ByteArray} (hr : L[k]? = some r) (hb : b.size ≤ 10) : (L.set k (letR b r)).length ≤ 1000000 ∧ SvOk (L.set k (letR b r)) ∧ ∀ q ∈ L.set k (letR b r), q.letter.size ≤ 500000 := by
  refine ⟨by rw [List.length_set]; have := hg.five; omega, ?_, fun q hq => ?_⟩
  · unfold SvOk; rw [svs_let b L k r hr]; exact hg.svOk
  · rcases List.mem_or_eq_of_mem_set hq with h | h
    · have := P17.isLet_size (hg.letters q h); omega
    · rw [h]; show b.size ≤ 500000; omega
set_option maxRecDepth 100000 in
set_option maxHeartbeats 16000000 in
theorem walkFormatRefuses (A : Option Addr) (c : Nat) (D : List Int) (off kind : Int) (w : World) (hl : D.length ≤ maxLen) (hF : CellsIn 1 u8Cell w A D) (hG : ∀ n ∈ D, 0 ≤ n ∧ n ≤ 255) (ho : 0 ≤ off ∧ off ≤ 255) (ht : 0 ≤ kind ∧ kind ≤ 255) (hv : Vars21 w) :
    Calls Tryd.prog 6 #[.slice A D.length c, .int .u8 off, .int .u8 kind] w fun e w' => e = .returned (.bool true) ∧ Below w.heap.size w w' := by
  have cM := Lib.hid (made17_any A c D ⟨#[82]⟩ w ⟨hl, hF, hG⟩)
  have hGd := P17.made_good D ⟨#[82]⟩
  generalize P17.made D ⟨#[82]⟩ = L at *
  have HV := Lib.hid hv
  clear hl hF hG hv
  generalize D.length = ND at *
  go_enter Tryd.func6, Tryd.ntmps6
  go_wp2_with fail
  refine cM.out.mono ?_
  rintro e W1 ⟨⟨v, rfl, hown⟩, hb1⟩
  obtain ⟨B, cB, rfl, hB, hBl, hcap, hR⟩ := rules_of_own17 hown rfl (by have := hGd.two; omega)
  clear hown hB hcap cM
  have cE := Lib.hid (era21_any (some ⟨B, 0, none⟩) cB L off kind W1 ho ht (by have := hGd.five; omega) hGd.svOk hR)
  have hOb := offOf_bd ho.1
  have hv1 := HV.out.below hb1
  generalize offOf off = O at *
  generalize fmt21 (kind.tmod 5) off L = F0 at *
  obtain ⟨O0, O1⟩ := hOb
  clear ho ht
  have cA9 : Hid (∀ t ∈ f9, ∀ W, Below W1.heap.size W1 W → Calls Tryd.prog 17 #[.string t, .int .i64 O, .agg #[.int .i64 0, .string ⟨#[83]⟩]] W fun e w' => e = .returned (.tuple #[.string ⟨#[]⟩, .int .i64 15]) ∧ Below W.heap.size W w') := fun t ht W h => by
    have hk := f9_kind t ht
    have q := fabbr_any t O 0 ⟨#[83]⟩ W (by omega) (by decide) ⟨by omega, by omega⟩ ⟨by decide, by decide⟩ (hv1.below h)
    rw [kind0_abbr hk.1] at q
    exact q
  have cC9 : Hid (∀ t ∈ f9, ∀ W, Below W1.heap.size W1 W → Calls Tryd.prog 16 #[.agg #[.int .i64 O, .int .i64 2, .int .i64 0, .string ⟨#[82]⟩, .string t, .bool false, .int .i64 0, .int .i64 0, .int .i64 0, .int .i64 0, .int .i64 0, .int .i64 0, .int .i64 0], .slice (some ⟨B, 0, none⟩) L.length cB] W fun e w' => e = .returned (.int .i64 15) ∧ Below W.heap.size W w') := fun t ht W h => by
    have hk := f9_kind t ht
    have q := fcheck_any O 2 0 ⟨#[82]⟩ t false 0 0 0 0 0 0 0 (some ⟨B, 0, none⟩) L cB W ⟨by omega, by omega⟩ ⟨by decide, by decide⟩ (by have := hGd.five; omega) hGd.svOk (fun r hr => by have := P17.isLet_size (hGd.letters r hr); omega) (by omega) (hR.below h) (hv1.below h)
    rw [kind0_check hk.1] at q
    exact q
  have cKA : Hid (∀ k r, L[k]? = some r → k = 0 → ∀ (AA : Option Addr) (cA : Nat) W, Vars21 W → RulesIn W AA (L.set k (letR ⟨#[65, 66, 67]⟩ r)) → Calls Tryd.prog 16 #[.agg #[.int .i64 O, .int .i64 2, .int .i64 0, .string ⟨#[82]⟩, .string ⟨#[67, 69, 37, 115, 84]⟩, .bool false, .int .i64 0, .int .i64 0, .int .i64 0, .int .i64 0, .int .i64 0, .int .i64 0, .int .i64 0], .slice AA L.length cA] W fun e w' => e = .returned (.int .i64 0) ∧ Below W.heap.size W w') := fun k r hr hk0 AA cA W hv hR2 => by
    obtain ⟨l1, l2, l3⟩ := let_ok (b := ⟨#[65, 66, 67]⟩) hGd hr (by decide)
    have q := fcheck_any O 2 0 ⟨#[82]⟩ ⟨#[67, 69, 37, 115, 84]⟩ false 0 0 0 0 0 0 0 AA _ cA W ⟨by omega, by omega⟩ ⟨by decide, by decide⟩ l1 l2 l3 (by decide) hR2 hv
    subst hk0
    rw [List.length_set, show P4.bl ⟨#[67, 69, 37, 115, 84]⟩ = [67, 69, 37, 115, 84] from rfl, chkA21 hGd hr] at q
    exact q
  have cKB : Hid (∀ k r, L[k]? = some r → k = 0 → ∀ (AA : Option Addr) (cA : Nat) W, Vars21 W → RulesIn W AA (L.set k (letR ⟨#[65, 66, 67]⟩ r)) → Calls Tryd.prog 16 #[.agg #[.int .i64 O, .int .i64 2, .int .i64 0, .string ⟨#[82]⟩, .string ⟨#[67, 69, 83, 37, 115, 84]⟩, .bool false, .int .i64 0, .int .i64 0, .int .i64 0, .int .i64 0, .int .i64 0, .int .i64 0, .int .i64 0], .slice AA L.length cA] W fun e w' => e = .returned (.int .i64 15) ∧ Below W.heap.size W w') := fun k r hr hk0 AA cA W hv hR2 => by
    obtain ⟨l1, l2, l3⟩ := let_ok (b := ⟨#[65, 66, 67]⟩) hGd hr (by decide)
    have q := fcheck_any O 2 0 ⟨#[82]⟩ ⟨#[67, 69, 83, 37, 115, 84]⟩ false 0 0 0 0 0 0 0 AA _ cA W ⟨by omega, by omega⟩ ⟨by decide, by decide⟩ l1 l2 l3 (by decide) hR2 hv
    subst hk0
    rw [List.length_set, show P4.bl ⟨#[67, 69, 83, 37, 115, 84]⟩ = [67, 69, 83, 37, 115, 84] from rfl, chkB21 hr] at q
    exact q
  have cKC : Hid (∀ k r, L[k]? = some r → ∀ (AA : Option Addr) (cA : Nat) W, Vars21 W → RulesIn W AA (L.set k (letR ⟨#[]⟩ r)) → Calls Tryd.prog 16 #[.agg #[.int .i64 O, .int .i64 2, .int .i64 0, .string ⟨#[82]⟩, .string ⟨#[69, 37, 115]⟩, .bool false, .int .i64 0, .int .i64 0, .int .i64 0, .int .i64 0, .int .i64 0, .int .i64 0, .int .i64 0], .slice AA L.length cA] W fun e w' => e = .returned (.int .i64 15) ∧ Below W.heap.size W w') := fun k r hr AA cA W hv hR2 => by
    obtain ⟨l1, l2, l3⟩ := let_ok (b := ⟨#[]⟩) hGd hr (by decide)
    have q := fcheck_any O 2 0 ⟨#[82]⟩ ⟨#[69, 37, 115]⟩ false 0 0 0 0 0 0 0 AA _ cA W ⟨by omega, by omega⟩ ⟨by decide, by decide⟩ l1 l2 l3 (by decide) hR2 hv
    rw [List.length_set, show P4.bl ⟨#[69, 37, 115]⟩ = [69, 37, 115] from rfl, chkC21 hr] at q
    exact q
  have cKD : Hid (∀ W, Vars21 W → Calls Tryd.prog 16 #[.agg #[.int .i64 O, .int .i64 0, .int .i64 0, .string ⟨#[]⟩, .string ⟨#[69, 37, 115, 84]⟩, .bool false, .int .i64 0, .int .i64 0, .int .i64 0, .int .i64 0, .int .i64 0, .int .i64 0, .int .i64 0], .slice none 0 0] W fun e w' => e = .returned (.int .i64 15) ∧ Below W.heap.size W w') := fun W hv => by
    have q := fcheck_any O 0 0 ⟨#[]⟩ ⟨#[69, 37, 115, 84]⟩ false 0 0 0 0 0 0 0 none [] 0 W ⟨by omega, by omega⟩ ⟨by decide, by decide⟩ (by decide) (fun y hy => by cases hy) (fun r hr => by cases hr) (by decide) (RulesIn.nil _ _) hv
    rw [show P4.bl ⟨#[69, 37, 115, 84]⟩ = [69, 37, 115, 84] from rfl, show lets [] = [] from rfl, show svs [] = [] from rfl, chkD21] at q
    exact q
  have cBig : Hid (∀ n s : Int, (-9223372036854775808 ≤ n ∧ n ≤ 9223372036854775807) → (-9223372036854775808 ≤ s ∧ s ≤ 9223372036854775807) → (n + s ≤ -86400 ∨ 86400 ≤ n + s) → ∀ W, Vars21 W → Calls Tryd.prog 17 #[.string ⟨#[37, 122]⟩, .int .i64 n, .agg #[.int .i64 s, .string ⟨#[]⟩]] W fun e w' => e = .returned (.tuple #[.string ⟨#[]⟩, .int .i64 15]) ∧ Below W.heap.size W w') := fun n s hn hs hb W hv => by
    have q := fabbr_any ⟨#[37, 122]⟩ n s ⟨#[]⟩ W (by decide) (by decide) hn hs hv
    rw [show P4.bl ⟨#[37, 122]⟩ = [37, 122] from rfl, show P4.bl ⟨#[]⟩ = [] from rfl, big_abbr hb] at q
    exact q
  have HG := Lib.hid hGd
  have HR := Lib.hid hR
  clear hGd hR hv1
  have HL := Lib.hid (show 2 ≤ L.length ∧ L.length ≤ 5 from ⟨HG.out.two, HG.out.five⟩)
  generalize hNR : L.length = NR at *
  have HNR := Lib.hid hNR
  clear hNR
  go_wp2_with fail
  refine cE.out.mono ?_
  rintro e W2 ⟨rfl, hc⟩
  have hb2 := (hc.alloc hc.size (.cells #[.int .i64 O, .int .i64 2, .int .i64 0, .string ⟨#[82]⟩, .string F0, .bool false, .int .i64 0, .int .i64 0, .int .i64 0, .int .i64 0, .int .i64 0, .int .i64 0, .int .i64 0] 33)).alloc (hc.alloc hc.size (.cells #[.int .i64 O, .int .i64 2, .int .i64 0, .string ⟨#[82]⟩, .string F0, .bool false, .int .i64 0, .int .i64 0, .int .i64 0, .int .i64 0, .int .i64 0, .int .i64 0, .int .i64 0] 33)).size (.cells #[.string ⟨#[]⟩, .string ⟨#[88]⟩, .string ⟨#[65, 66, 47, 67, 68]⟩, .string ⟨#[37, 122, 37, 122]⟩, .string ⟨#[43, 49]⟩, .string ⟨#[37, 115, 37, 115]⟩, .string ⟨#[67, 69, 84, 47]⟩, .string ⟨#[43, 50, 53]⟩, .string ⟨#[45, 48, 48]⟩] 9)
  have hE2 := (Blk.new W2 33 #[.int .i64 O, .int .i64 2, .int .i64 0, .string ⟨#[82]⟩, .string F0, .bool false, .int .i64 0, .int .i64 0, .int .i64 0, .int .i64 0, .int .i64 0, .int .i64 0, .int .i64 0]).alloc (.cells #[.string ⟨#[]⟩, .string ⟨#[88]⟩, .string ⟨#[65, 66, 47, 67, 68]⟩, .string ⟨#[37, 122, 37, 122]⟩, .string ⟨#[43, 49]⟩, .string ⟨#[37, 115, 37, 115]⟩, .string ⟨#[67, 69, 84, 47]⟩, .string ⟨#[43, 50, 53]⟩, .string ⟨#[45, 48, 48]⟩] 9)
  have hS2 := Blk.newAt (W2.alloc (.cells #[.int .i64 O, .int .i64 2, .int .i64 0, .string ⟨#[82]⟩, .string F0, .bool false, .int .i64 0, .int .i64 0, .int .i64 0, .int .i64 0, .int .i64 0, .int .i64 0, .int .i64 0] 33)) (W2.heap.size + 1) (by simp) 9 #[.string ⟨#[]⟩, .string ⟨#[88]⟩, .string ⟨#[65, 66, 47, 67, 68]⟩, .string ⟨#[37, 122, 37, 122]⟩, .string ⟨#[43, 49]⟩, .string ⟨#[37, 115, 37, 115]⟩, .string ⟨#[67, 69, 84, 47]⟩, .string ⟨#[43, 50, 53]⟩, .string ⟨#[45, 48, 48]⟩]
  have hG2 : W1.heap.size ≤ W2.heap.size := hc.size
  clear hc cE
  go_wp2_with fail
  generalize (W2.alloc (.cells #[.int .i64 O, .int .i64 2, .int .i64 0, .string ⟨#[82]⟩, .string F0, .bool false, .int .i64 0, .int .i64 0, .int .i64 0, .int .i64 0, .int .i64 0, .int .i64 0, .int .i64 0] 33)).alloc (.cells #[.string ⟨#[]⟩, .string ⟨#[88]⟩, .string ⟨#[65, 66, 47, 67, 68]⟩, .string ⟨#[37, 122, 37, 122]⟩, .string ⟨#[43, 49]⟩, .string ⟨#[37, 115, 37, 115]⟩, .string ⟨#[67, 69, 84, 47]⟩, .string ⟨#[43, 50, 53]⟩, .string ⟨#[45, 48, 48]⟩] 9) = W3 at *
  obtain ⟨GA, hGA⟩ : ∃ GA, W2.heap.size + 1 = GA := ⟨_, rfl⟩
  rw [hGA] at hS2 ⊢
  have hne : GA ≠ W2.heap.size := by omega
  clear hGA
  generalize W2.heap.size = G2 at *
  have HB2 := Lib.hid hG2
  have HNE := Lib.hid hne
  clear hG2 hne
  go_loopw [27] (fun i wr => ∃ (k : Nat) (FF : ByteArray), k ≤ 9 ∧ i = .int .i64 (k : Int) ∧ Blk wr G2 33 #[.int .i64 O, .int .i64 2, .int .i64 0, .string ⟨#[82]⟩, .string FF, .bool false, .int .i64 0, .int .i64 0, .int .i64 0, .int .i64 0, .int .i64 0, .int .i64 0, .int .i64 0] ∧ Blk wr GA 9 #[.string ⟨#[]⟩, .string ⟨#[88]⟩, .string ⟨#[65, 66, 47, 67, 68]⟩, .string ⟨#[37, 122, 37, 122]⟩, .string ⟨#[43, 49]⟩, .string ⟨#[37, 115, 37, 115]⟩, .string ⟨#[67, 69, 84, 47]⟩, .string ⟨#[43, 50, 53]⟩, .string ⟨#[45, 48, 48]⟩] ∧ Below W1.heap.size W1 wr) (fun i _ => 9 - (intOf i).toNat)
  case atStart => exact ⟨0, _, by omega, rfl, hE2, hS2, hb2⟩
  case round =>
    clear hE2 hS2 hb2
    obtain ⟨k, FF, hk, rfl, hF, hS, hb⟩ := hrel
    by_cases hlt : k < 9
    · obtain ⟨t, hf, hm⟩ : ∃ t : ByteArray, wr.cell? ⟨GA, k, none⟩ = some (.string t) ∧ t ∈ f9 := by
        have hk9 : k = 0 ∨ k = 1 ∨ k = 2 ∨ k = 3 ∨ k = 4 ∨ k = 5 ∨ k = 6 ∨ k = 7 ∨ k = 8 := by omega
        rcases hk9 with rfl | rfl | rfl | rfl | rfl | rfl | rfl | rfl | rfl
        · exact ⟨_, (hS.cell 0).trans rfl, by simp [f9]⟩
        · exact ⟨_, (hS.cell 1).trans rfl, by simp [f9]⟩
        · exact ⟨_, (hS.cell 2).trans rfl, by simp [f9]⟩
        · exact ⟨_, (hS.cell 3).trans rfl, by simp [f9]⟩
        · exact ⟨_, (hS.cell 4).trans rfl, by simp [f9]⟩
        · exact ⟨_, (hS.cell 5).trans rfl, by simp [f9]⟩
        · exact ⟨_, (hS.cell 6).trans rfl, by simp [f9]⟩
        · exact ⟨_, (hS.cell 7).trans rfl, by simp [f9]⟩
        · exact ⟨_, (hS.cell 8).trans rfl, by simp [f9]⟩
      have hki : (k : Int) < 9 := by omega
      have cA := Lib.hid (cA9.out t hm)
      have cC := Lib.hid (cC9.out t hm)
      clear hm
      have x4 := (hF.cell 4).trans rfl
      have u4 := hF.frozen 4
      have x0 := (hF.cell 0).trans rfl
      have hF4 : Blk (wr.setCell ⟨G2, 4, none⟩ (.string t)) G2 33 #[.int .i64 O, .int .i64 2, .int .i64 0, .string ⟨#[82]⟩, .string t, .bool false, .int .i64 0, .int .i64 0, .int .i64 0, .int .i64 0, .int .i64 0, .int .i64 0, .int .i64 0] := hF.set_ 4 _
      have hS4 := hS.far (p := ⟨G2, 4, none⟩) HNE.out (.string t)
      have hb4 := hb.setCell (p := ⟨G2, 4, none⟩) HB2.out (.string t)
      have H4 := Lib.hid (And.intro hF4 (And.intro hS4 hb4))
      clear hF hS hb hF4 hS4 hb4
      go_wp2_with fail
      refine (cA.out _ H4.out.2.2).mono ?_
      rintro e W5 ⟨rfl, hc⟩
      obtain ⟨hF4, hS4, hb4⟩ := H4.out
      have hb5 := hb4.trans (hc.mono hb4.size)
      have hF5 := hF4.below hc hF4.lt
      have hS5 := hS4.below hc hS4.lt
      clear H4 hF4 hS4 hb4 hc cA x4 u4 x0 hf
      have z0 := (hF5.cell 0).trans rfl
      have z1 := (hF5.cell 1).trans rfl
      have z2 := (hF5.cell 2).trans rfl
      have z3 := (hF5.cell 3).trans rfl
      have z4 := (hF5.cell 4).trans rfl
      have z5 := (hF5.cell 5).trans rfl
      have z6 := (hF5.cell 6).trans rfl
      have z7 := (hF5.cell 7).trans rfl
      have z8 := (hF5.cell 8).trans rfl
      have z9 := (hF5.cell 9).trans rfl
      have z10 := (hF5.cell 10).trans rfl
      have z11 := (hF5.cell 11).trans rfl
      have z12 := (hF5.cell 12).trans rfl
      go_wp2_with fail
      refine (cC.out _ hb5).mono ?_
      rintro e W6 ⟨rfl, hc⟩
      have hb6 := hb5.trans (hc.mono hb5.size)
      have hF6 := hF5.below hc hF5.lt
      have hS6 := hS5.below hc hS5.lt
      clear hb5 hF5 hS5 hc cC z0 z1 z2 z3 z4 z5 z6 z7 z8 z9 z10 z11 z12
      go_wp2_with fail
      go_roundw
      case rel => exact ⟨k + 1, _, by omega, by go_num, hF6, hS6, hb6⟩
      case measure => simp [intOf]; omega
    · obtain rfl : k = 9 := by omega
      clear hS cA9 cC9 HNE
      obtain ⟨i0', hi, hz0, hz1, hz2⟩ := info_parts infoR17
      obtain ⟨r0, hr0⟩ : ∃ r, L[0]? = some r := ⟨_, List.getElem?_eq_getElem (by rw [HNR.out]; have := HL.out.1; omega)⟩
      obtain ⟨M, hM⟩ : ∃ M : Nat, M + 1 = NR := ⟨NR - 1, by have := HL.out.1; omega⟩
      obtain ⟨rM, hrM⟩ : ∃ r, L[M]? = some r := ⟨_, List.getElem?_eq_getElem (by rw [HNR.out]; omega)⟩
      have CA := Lib.hid (cKA.out 0 r0 hr0 rfl)
      have CB := Lib.hid (cKB.out 0 r0 hr0 rfl)
      have CC := Lib.hid (cKC.out M rM hrM)
      clear cKA cKB cKC
      have hbn := hb.alloc hb.size (.cells #[] 38)
      have hFn := hF.alloc (.cells #[] 38)
      have hRn := HR.out.below hbn
      have hOn := own_new (base := G2 + 1) (e := 38) 11 0 (Blk.new wr 38 #[]) (by have := hF.lt; omega) rfl (by decide)
      have HB := Lib.hid (show G2 + 1 ≤ (wr.alloc (.cells #[] 38)).heap.size by have := hFn.lt; omega)
      have HO := Lib.hid hOn
      have HN := Lib.hid (cells17_of hRn)
      have HF := Lib.hid (And.intro hFn hbn)
      have HWL : Hid (wr.heap.size < (wr.alloc (.cells #[] 38)).heap.size) := Lib.hid (by simp)
      clear hbn hFn hRn hOn hF hb
      go_wp2_with (at_builtin; refine wpList_append_lies _ rfl _ _ 24 rfl (G2 + 1) 38 i0' (.agg #[.string ⟨#[]⟩, .int .i64 0, .int .i64 0, .int .i64 0, .int .i64 0, .int .i64 0, .int .i64 0, .int .i64 0, .int .i64 0, .int .i64 0, .string ⟨#[]⟩]) 11 104 Tryd.underlying24 hi hz0 hz1 hz2 rfl (by decide) _ _ _ rfl HO.out ⟨B, 0, none⟩ NR cB (r17 L) rfl (by rw [r17_len, HNR.out]) HN.out (r17_ones L) (by have := HL.out; omega) (by have := HL.out; simp only [maxLen]; omega) (by have := HL.out; omega) HB.out _ rfl ?_)
      intro g1 c1 wa hown hgr hat hatl
      have hg1 : G2 + 1 ≤ g1 := (hown.lt g1 rfl).1
      have hFa := blk_grown HF.out.1 HO.out hgr (Nat.lt_succ_self _)
      have hba := own_grown HF.out.2 HO.out hgr HF.out.2.size (by have := HB2.out; omega)
      clear HO HN HB HF HWL hgr hat
      have hbn := hba.alloc hba.size (.cells #[] 38)
      have hFn := hFa.alloc (.cells #[] 38)
      have hRn := HR.out.below hbn
      have hOn := own_new (base := G2 + 1) (e := 38) 11 0 (Blk.new wa 38 #[]) (by have := hFa.lt; omega) rfl (by decide)
      have hOw := hown.alloc (.cells #[] 38)
      have HB := Lib.hid (show G2 + 1 ≤ (wa.alloc (.cells #[] 38)).heap.size by have := hFn.lt; omega)
      have HO := Lib.hid hOn
      have HN := Lib.hid (cells17_of hRn)
      have HF := Lib.hid (And.intro hFn (And.intro hbn hOw))
      clear hbn hFn hRn hOn hOw hFa hba hown
      have HAL := Lib.hid hatl
      clear hatl
      go_wp2_with (at_builtin; refine wpList_append_lies _ rfl _ _ 24 rfl (G2 + 1) 38 i0' (.agg #[.string ⟨#[]⟩, .int .i64 0, .int .i64 0, .int .i64 0, .int .i64 0, .int .i64 0, .int .i64 0, .int .i64 0, .int .i64 0, .int .i64 0, .string ⟨#[]⟩]) 11 104 Tryd.underlying24 hi hz0 hz1 hz2 rfl (by decide) _ _ _ rfl HO.out ⟨B, 0, none⟩ NR cB (r17 L) rfl (by rw [r17_len, HNR.out]) HN.out (r17_ones L) (by have := HL.out; omega) (by have := HL.out; simp only [maxLen]; omega) (by have := HL.out; omega) HB.out _ rfl ?_)
      intro g2 c2 wb hown2 hgr2 hat2 hat2l
      have hg21 : g1 ≠ g2 := by
        have h1 := HAL.out
        rcases hat2 with h | h
        · have h : some wa.heap.size = some g2 := h
          injection h with h
          omega
        · have : (wa.alloc (.cells #[] 38)).heap.size = wa.heap.size + 1 := by simp
          omega
      have hg2 : G2 + 1 ≤ g2 := (hown2.lt g2 rfl).1
      have hFb := blk_grown HF.out.1 HO.out hgr2 (Nat.lt_succ_self _)
      have hbb := own_grown HF.out.2.1 HO.out hgr2 HF.out.2.1.size (by have := HB2.out; omega)
      have hown1 := own_pass HF.out.2.2 hgr2 (fun g hg e => by
        have hg : some g1 = some g := hg
        have e : some wa.heap.size = some g := e
        injection hg with hg
        injection e with e
        have := HAL.out
        omega)
      clear HO HN HB HF hgr2 hat2 hat2l HAL
      have hNR2 : 2 ≤ NR := HL.out.1
      have hNR5 : NR ≤ 5 := HL.out.2
      have k1 : wb.cell? ⟨g1, 10, none⟩ = some (.string r0.letter) := by
        rw [hown1.cellAt 10 (by omega)]
        have q := flat_at (f := RV.cells) (m := 11) (fun _ => rfl) L 0 10 r0 (by decide) hr0
        exact q
      have f1 := hown1.frozenAt 10
      have k2 : (wb.setCell ⟨g1, 10, none⟩ (.string ⟨#[65, 66, 67]⟩)).cell? ⟨g2, M * 11 + 10, none⟩ = some (.string rM.letter) := by
        rw [(own_far_ne hown2 (g' := g1) (i := 10) (fun q => hg21 q.symm) (.string ⟨#[65, 66, 67]⟩)).cellAt (M * 11 + 10) (by omega)]
        have q := flat_at (f := RV.cells) (m := 11) (fun _ => rfl) L M 10 rM (by decide) hrM
        exact q
      have f2 := (own_far_ne hown2 (g' := g1) (i := 10) (fun q => hg21 q.symm) (.string ⟨#[65, 66, 67]⟩)).frozenAt (M * 11 + 10)
      have hs1 := (hown1.stored 10 (.string ⟨#[65, 66, 67]⟩)).1
      rw [show (r17 L).set 10 (.string ⟨#[65, 66, 67]⟩) = r17 (L.set 0 (letR ⟨#[65, 66, 67]⟩ r0)) from (r17_let _ L 0 r0 hr0).symm] at hs1
      have hs1' := own_far_ne hs1 (g' := g2) (i := M * 11 + 10) hg21 (.string ⟨#[]⟩)
      have hs2 := ((own_far_ne hown2 (g' := g1) (i := 10) (fun q => hg21 q.symm) (.string ⟨#[65, 66, 67]⟩)).stored (M * 11 + 10) (.string ⟨#[]⟩)).1
      rw [← r17_let ⟨#[]⟩ L M rM hrM] at hs2
      have hFs := (hFb.far (p := ⟨g1, 10, none⟩) (by show G2 ≠ g1; omega) (.string ⟨#[65, 66, 67]⟩)).far (p := ⟨g2, M * 11 + 10, none⟩) (by show G2 ≠ g2; omega) (.string ⟨#[]⟩)
      have hbs := (hbb.setCell (p := ⟨g1, 10, none⟩) (by have := HB2.out; show W1.heap.size ≤ g1; omega) (.string ⟨#[65, 66, 67]⟩)).setCell (p := ⟨g2, M * 11 + 10, none⟩) (by have := HB2.out; show W1.heap.size ≤ g2; omega) (.string ⟨#[]⟩)
      have HS := Lib.hid (And.intro hs1' (And.intro hs2 (And.intro hFs hbs)))
      have wm : IntKind.i64.wrap ((NR : Int) - 1) = (M : Int) := by rw [← hM]; exact (IntWalk.i64_in _ (by omega)).trans (by omega)
      have hMi : (M : Int) < (NR : Int) := by omega
      have hN0 : (0 : Int) < (NR : Int) := by omega
      have hLL : L.length = NR := HNR.out
      have HLA : Hid ((L.set 0 (letR ⟨#[65, 66, 67]⟩ r0)).length = NR ∧ (L.set M (letR ⟨#[]⟩ rM)).length = NR) := Lib.hid ⟨by rw [List.length_set]; exact hLL, by rw [List.length_set]; exact hLL⟩
      clear hLL hs1 hs1' hs2 hFs hbs hFb hbb hown1 hown2 hM hNR5
      go_upto_region 13 with fail
      obtain ⟨hr1, hr2, hF, hb⟩ := HS.out
      clear HS k1 f1 k2 f2 wm
      generalize (wb.setCell ⟨g1, 10, none⟩ (.string ⟨#[65, 66, 67]⟩)).setCell ⟨g2, M * 11 + 10, none⟩ (.string ⟨#[]⟩) = V0 at *
      have x4 := (hF.cell 4).trans rfl
      have u4 := hF.frozen 4
      have hq0 := hF.set_ 4 (.string ⟨#[67, 69, 37, 115, 84]⟩)
      have hFx : Blk (V0.setCell ⟨G2, 4, none⟩ (.string ⟨#[67, 69, 37, 115, 84]⟩)) G2 33 #[.int .i64 O, .int .i64 2, .int .i64 0, .string ⟨#[82]⟩, .string ⟨#[67, 69, 37, 115, 84]⟩, .bool false, .int .i64 0, .int .i64 0, .int .i64 0, .int .i64 0, .int .i64 0, .int .i64 0, .int .i64 0] := hq0
      have hbx := (hb.setCell (p := ⟨G2, 4, none⟩) HB2.out (.string ⟨#[67, 69, 37, 115, 84]⟩))
      have hr1x := (own_far21 hr1 (p := ⟨G2, 4, none⟩) (Nat.lt_succ_self _) (.string ⟨#[67, 69, 37, 115, 84]⟩))
      have hr2x := (own_far21 hr2 (p := ⟨G2, 4, none⟩) (Nat.lt_succ_self _) (.string ⟨#[67, 69, 37, 115, 84]⟩))
      have HX := Lib.hid (And.intro hr1x (And.intro hr2x (And.intro hFx hbx)))
      clear hF hb hr1 hr2 hFx hbx hr1x hr2x hq0
      go_upto_region 14 with fail
      obtain ⟨hr1, hr2, hF, hb⟩ := HX.out
      clear HX x4 u4
      generalize (V0.setCell ⟨G2, 4, none⟩ (.string ⟨#[67, 69, 37, 115, 84]⟩)) = V1 at *
      have hvx := HV.out.below (hb1.trans (hb.mono hb1.size))
      have z0 := (hF.cell 0).trans rfl
      have z1 := (hF.cell 1).trans rfl
      have z2 := (hF.cell 2).trans rfl
      have z3 := (hF.cell 3).trans rfl
      have z4 := (hF.cell 4).trans rfl
      have z5 := (hF.cell 5).trans rfl
      have z6 := (hF.cell 6).trans rfl
      have z7 := (hF.cell 7).trans rfl
      have z8 := (hF.cell 8).trans rfl
      have z9 := (hF.cell 9).trans rfl
      have z10 := (hF.cell 10).trans rfl
      have z11 := (hF.cell 11).trans rfl
      have z12 := (hF.cell 12).trans rfl
      have hRx := rules17_at hr1 (HLA.out.1).symm (by omega)
      have HY := Lib.hid (And.intro hr1 (And.intro hr2 (And.intro hF hb)))
      have CX := Lib.hid (CA.out (some ⟨g1, 0, none⟩) c1 V1 hvx hRx)
      clear hr1 hr2 hF hb hvx hRx
      go_wp2_with fail
      refine CX.out.mono ?_
      rintro e V2 ⟨rfl, hc⟩
      obtain ⟨hr1', hr2', hF', hb'⟩ := HY.out
      have hr1 := own_below hr1' hc
      have hr2 := own_below hr2' hc
      have hF := hF'.below hc hF'.lt
      have hb := hb'.trans (hc.mono hb'.size)
      clear HY CX hr1' hr2' hF' hb' hc z0 z1 z2 z3 z4 z5 z6 z7 z8 z9 z10 z11 z12
      have HW := Lib.hid (And.intro hr1 (And.intro hr2 (And.intro hF hb)))
      clear hr1 hr2 hF hb
      go_upto_region 16 with fail
      obtain ⟨hr1, hr2, hF, hb⟩ := HW.out
      clear HW
      have x4 := (hF.cell 4).trans rfl
      have u4 := hF.frozen 4
      have hq0 := hF.set_ 4 (.string ⟨#[67, 69, 83, 37, 115, 84]⟩)
      have hFx : Blk (V2.setCell ⟨G2, 4, none⟩ (.string ⟨#[67, 69, 83, 37, 115, 84]⟩)) G2 33 #[.int .i64 O, .int .i64 2, .int .i64 0, .string ⟨#[82]⟩, .string ⟨#[67, 69, 83, 37, 115, 84]⟩, .bool false, .int .i64 0, .int .i64 0, .int .i64 0, .int .i64 0, .int .i64 0, .int .i64 0, .int .i64 0] := hq0
      have hbx := (hb.setCell (p := ⟨G2, 4, none⟩) HB2.out (.string ⟨#[67, 69, 83, 37, 115, 84]⟩))
      have hr1x := (own_far21 hr1 (p := ⟨G2, 4, none⟩) (Nat.lt_succ_self _) (.string ⟨#[67, 69, 83, 37, 115, 84]⟩))
      have hr2x := (own_far21 hr2 (p := ⟨G2, 4, none⟩) (Nat.lt_succ_self _) (.string ⟨#[67, 69, 83, 37, 115, 84]⟩))
      have HX := Lib.hid (And.intro hr1x (And.intro hr2x (And.intro hFx hbx)))
      clear hF hb hr1 hr2 hFx hbx hr1x hr2x hq0
      go_upto_region 17 with fail
      obtain ⟨hr1, hr2, hF, hb⟩ := HX.out
      clear HX x4 u4
      generalize (V2.setCell ⟨G2, 4, none⟩ (.string ⟨#[67, 69, 83, 37, 115, 84]⟩)) = V3 at *
      have hvx := HV.out.below (hb1.trans (hb.mono hb1.size))
      have z0 := (hF.cell 0).trans rfl
      have z1 := (hF.cell 1).trans rfl
      have z2 := (hF.cell 2).trans rfl
      have z3 := (hF.cell 3).trans rfl
      have z4 := (hF.cell 4).trans rfl
      have z5 := (hF.cell 5).trans rfl
      have z6 := (hF.cell 6).trans rfl
      have z7 := (hF.cell 7).trans rfl
      have z8 := (hF.cell 8).trans rfl
      have z9 := (hF.cell 9).trans rfl
      have z10 := (hF.cell 10).trans rfl
      have z11 := (hF.cell 11).trans rfl
      have z12 := (hF.cell 12).trans rfl
      have hRx := rules17_at hr1 (HLA.out.1).symm (by omega)
      have HY := Lib.hid (And.intro hr1 (And.intro hr2 (And.intro hF hb)))
      have CX := Lib.hid (CB.out (some ⟨g1, 0, none⟩) c1 V3 hvx hRx)
      clear hr1 hr2 hF hb hvx hRx
      go_wp2_with fail
      refine CX.out.mono ?_
      rintro e V4 ⟨rfl, hc⟩
      obtain ⟨hr1', hr2', hF', hb'⟩ := HY.out
      have hr1 := own_below hr1' hc
      have hr2 := own_below hr2' hc
      have hF := hF'.below hc hF'.lt
      have hb := hb'.trans (hc.mono hb'.size)
      clear HY CX hr1' hr2' hF' hb' hc z0 z1 z2 z3 z4 z5 z6 z7 z8 z9 z10 z11 z12
      have HW := Lib.hid (And.intro hr1 (And.intro hr2 (And.intro hF hb)))
      clear hr1 hr2 hF hb
      go_upto_region 19 with fail
      obtain ⟨hr1, hr2, hF, hb⟩ := HW.out
      clear HW
      have x4 := (hF.cell 4).trans rfl
      have u4 := hF.frozen 4
      have hq0 := hF.set_ 4 (.string ⟨#[69, 37, 115]⟩)
      have hFx : Blk (V4.setCell ⟨G2, 4, none⟩ (.string ⟨#[69, 37, 115]⟩)) G2 33 #[.int .i64 O, .int .i64 2, .int .i64 0, .string ⟨#[82]⟩, .string ⟨#[69, 37, 115]⟩, .bool false, .int .i64 0, .int .i64 0, .int .i64 0, .int .i64 0, .int .i64 0, .int .i64 0, .int .i64 0] := hq0
      have hbx := (hb.setCell (p := ⟨G2, 4, none⟩) HB2.out (.string ⟨#[69, 37, 115]⟩))
      have hr1x := (own_far21 hr1 (p := ⟨G2, 4, none⟩) (Nat.lt_succ_self _) (.string ⟨#[69, 37, 115]⟩))
      have hr2x := (own_far21 hr2 (p := ⟨G2, 4, none⟩) (Nat.lt_succ_self _) (.string ⟨#[69, 37, 115]⟩))
      have HX := Lib.hid (And.intro hr1x (And.intro hr2x (And.intro hFx hbx)))
      clear hF hb hr1 hr2 hFx hbx hr1x hr2x hq0
      go_upto_region 20 with fail
      obtain ⟨hr1, hr2, hF, hb⟩ := HX.out
      clear HX x4 u4
      generalize (V4.setCell ⟨G2, 4, none⟩ (.string ⟨#[69, 37, 115]⟩)) = V5 at *
      have hvx := HV.out.below (hb1.trans (hb.mono hb1.size))
      have z0 := (hF.cell 0).trans rfl
      have z1 := (hF.cell 1).trans rfl
      have z2 := (hF.cell 2).trans rfl
      have z3 := (hF.cell 3).trans rfl
      have z4 := (hF.cell 4).trans rfl
      have z5 := (hF.cell 5).trans rfl
      have z6 := (hF.cell 6).trans rfl
      have z7 := (hF.cell 7).trans rfl
      have z8 := (hF.cell 8).trans rfl
      have z9 := (hF.cell 9).trans rfl
      have z10 := (hF.cell 10).trans rfl
      have z11 := (hF.cell 11).trans rfl
      have z12 := (hF.cell 12).trans rfl
      have hRx := rules17_at hr2 (HLA.out.2).symm (by omega)
      have HY := Lib.hid (And.intro hr1 (And.intro hr2 (And.intro hF hb)))
      have CX := Lib.hid (CC.out (some ⟨g2, 0, none⟩) c2 V5 hvx hRx)
      clear hr1 hr2 hF hb hvx hRx
      go_wp2_with fail
      refine CX.out.mono ?_
      rintro e V6 ⟨rfl, hc⟩
      obtain ⟨hr1', hr2', hF', hb'⟩ := HY.out
      have hr1 := own_below hr1' hc
      have hr2 := own_below hr2' hc
      have hF := hF'.below hc hF'.lt
      have hb := hb'.trans (hc.mono hb'.size)
      clear HY CX hr1' hr2' hF' hb' hc z0 z1 z2 z3 z4 z5 z6 z7 z8 z9 z10 z11 z12
      have HW := Lib.hid (And.intro hr1 (And.intro hr2 (And.intro hF hb)))
      clear hr1 hr2 hF hb
      go_upto_region 22 with fail
      obtain ⟨hr1, hr2, hF, hb⟩ := HW.out
      clear HW
      have x1 := (hF.cell 1).trans rfl
      have u1 := hF.frozen 1
      have x3 := (hF.cell 3).trans rfl
      have u3 := hF.frozen 3
      have x4 := (hF.cell 4).trans rfl
      have u4 := hF.frozen 4
      have hq0 := hF.set_ 1 (.int .i64 0)
      have hq1 := hq0.set_ 3 (.string ⟨#[]⟩)
      have hq2 := hq1.set_ 4 (.string ⟨#[69, 37, 115, 84]⟩)
      have hFx : Blk (((V6.setCell ⟨G2, 1, none⟩ (.int .i64 0)).setCell ⟨G2, 3, none⟩ (.string ⟨#[]⟩)).setCell ⟨G2, 4, none⟩ (.string ⟨#[69, 37, 115, 84]⟩)) G2 33 #[.int .i64 O, .int .i64 0, .int .i64 0, .string ⟨#[]⟩, .string ⟨#[69, 37, 115, 84]⟩, .bool false, .int .i64 0, .int .i64 0, .int .i64 0, .int .i64 0, .int .i64 0, .int .i64 0, .int .i64 0] := hq2
      have hbx := (((hb.setCell (p := ⟨G2, 1, none⟩) HB2.out (.int .i64 0)).setCell (p := ⟨G2, 3, none⟩) HB2.out (.string ⟨#[]⟩)).setCell (p := ⟨G2, 4, none⟩) HB2.out (.string ⟨#[69, 37, 115, 84]⟩))
      have hr1x := (own_far21 (own_far21 (own_far21 hr1 (p := ⟨G2, 1, none⟩) (Nat.lt_succ_self _) (.int .i64 0)) (p := ⟨G2, 3, none⟩) (Nat.lt_succ_self _) (.string ⟨#[]⟩)) (p := ⟨G2, 4, none⟩) (Nat.lt_succ_self _) (.string ⟨#[69, 37, 115, 84]⟩))
      have hr2x := (own_far21 (own_far21 (own_far21 hr2 (p := ⟨G2, 1, none⟩) (Nat.lt_succ_self _) (.int .i64 0)) (p := ⟨G2, 3, none⟩) (Nat.lt_succ_self _) (.string ⟨#[]⟩)) (p := ⟨G2, 4, none⟩) (Nat.lt_succ_self _) (.string ⟨#[69, 37, 115, 84]⟩))
      have HX := Lib.hid (And.intro hr1x (And.intro hr2x (And.intro hFx hbx)))
      clear hF hb hr1 hr2 hFx hbx hr1x hr2x hq0 hq1 hq2
      go_upto_region 23 with fail
      obtain ⟨hr1, hr2, hF, hb⟩ := HX.out
      clear HX x1 u1 x3 u3 x4 u4
      generalize (((V6.setCell ⟨G2, 1, none⟩ (.int .i64 0)).setCell ⟨G2, 3, none⟩ (.string ⟨#[]⟩)).setCell ⟨G2, 4, none⟩ (.string ⟨#[69, 37, 115, 84]⟩)) = V7 at *
      have hvx := HV.out.below (hb1.trans (hb.mono hb1.size))
      have z0 := (hF.cell 0).trans rfl
      have z1 := (hF.cell 1).trans rfl
      have z2 := (hF.cell 2).trans rfl
      have z3 := (hF.cell 3).trans rfl
      have z4 := (hF.cell 4).trans rfl
      have z5 := (hF.cell 5).trans rfl
      have z6 := (hF.cell 6).trans rfl
      have z7 := (hF.cell 7).trans rfl
      have z8 := (hF.cell 8).trans rfl
      have z9 := (hF.cell 9).trans rfl
      have z10 := (hF.cell 10).trans rfl
      have z11 := (hF.cell 11).trans rfl
      have z12 := (hF.cell 12).trans rfl
      have HY := Lib.hid (And.intro hr1 (And.intro hr2 (And.intro hF hb)))
      have CX := Lib.hid (cKD.out V7 hvx)
      clear hr1 hr2 hF hb hvx
      go_wp2_with fail
      refine CX.out.mono ?_
      rintro e V8 ⟨rfl, hc⟩
      obtain ⟨hr1', hr2', hF', hb'⟩ := HY.out
      have hr1 := own_below hr1' hc
      have hr2 := own_below hr2' hc
      have hF := hF'.below hc hF'.lt
      have hb := hb'.trans (hc.mono hb'.size)
      clear HY CX hr1' hr2' hF' hb' hc z0 z1 z2 z3 z4 z5 z6 z7 z8 z9 z10 z11 z12
      clear hr1 hr2 hF CA CB CC cKD hi hz0 hz1 hz2
      have hbA := hb1.trans ((hb.alloc hb.size (.cells #[.int .i64 4611686018427387904, .int .i64 (-4611686018427387904), .int .i64 9223372036854775807, .int .i64 (-9223372036854775808)] 2)).mono hb1.size)
      have hAr := Blk.new V8 2 #[.int .i64 4611686018427387904, .int .i64 (-4611686018427387904), .int .i64 9223372036854775807, .int .i64 (-9223372036854775808)]
      clear hb
      go_wp2_with fail
      generalize V8.heap.size = GB at *
      generalize V8.alloc (.cells #[.int .i64 4611686018427387904, .int .i64 (-4611686018427387904), .int .i64 9223372036854775807, .int .i64 (-9223372036854775808)] 2) = V9 at *
      go_loopw [92] (fun i wr => ∃ k : Nat, k ≤ 4 ∧ i = .int .i64 (k : Int) ∧ Blk wr GB 2 #[.int .i64 4611686018427387904, .int .i64 (-4611686018427387904), .int .i64 9223372036854775807, .int .i64 (-9223372036854775808)] ∧ Below w.heap.size w wr) (fun i _ => 4 - (intOf i).toNat)
      case atStart => exact ⟨0, by omega, rfl, hAr, hbA⟩
      case round =>
        clear hAr hbA
        obtain ⟨k, hk, rfl, hAr, hb⟩ := hrel
        by_cases hlt : k < 4
        · have hk4 : k = 0 ∨ k = 1 ∨ k = 2 ∨ k = 3 := by omega
          have hvb := HV.out.below hb
          clear hk hlt
          rcases hk4 with rfl | rfl | rfl | rfl
          · have ce := (hAr.cell 0).trans rfl
            have cb := Lib.hid (cBig.out 4611686018427387904 2305843009213693952 (by decide) (by decide) (by decide) _ hvb)
            have HH := Lib.hid (And.intro hAr hb)
            clear hAr hb hvb
            go_wp2_with fail
            refine cb.out.mono ?_
            rintro e W9 ⟨rfl, hc⟩
            have hA9 := HH.out.1.below hc HH.out.1.lt
            have hb9 := HH.out.2.trans (hc.mono HH.out.2.size)
            clear HH hc cb ce
            go_wp2_with fail
            go_roundw
            case rel => exact ⟨1, by omega, by go_num, hA9, hb9⟩
            case measure => simp [intOf]
          · have ce := (hAr.cell 1).trans rfl
            have cb := Lib.hid (cBig.out (-4611686018427387904) (-2305843009213693952) (by decide) (by decide) (by decide) _ hvb)
            have HH := Lib.hid (And.intro hAr hb)
            clear hAr hb hvb
            go_wp2_with fail
            refine cb.out.mono ?_
            rintro e W9 ⟨rfl, hc⟩
            have hA9 := HH.out.1.below hc HH.out.1.lt
            have hb9 := HH.out.2.trans (hc.mono HH.out.2.size)
            clear HH hc cb ce
            go_wp2_with fail
            go_roundw
            case rel => exact ⟨2, by omega, by go_num, hA9, hb9⟩
            case measure => simp [intOf]
          · have ce := (hAr.cell 2).trans rfl
            have cb := Lib.hid (cBig.out 9223372036854775807 4611686018427387903 (by decide) (by decide) (by decide) _ hvb)
            have HH := Lib.hid (And.intro hAr hb)
            clear hAr hb hvb
            go_wp2_with fail
            refine cb.out.mono ?_
            rintro e W9 ⟨rfl, hc⟩
            have hA9 := HH.out.1.below hc HH.out.1.lt
            have hb9 := HH.out.2.trans (hc.mono HH.out.2.size)
            clear HH hc cb ce
            go_wp2_with fail
            go_roundw
            case rel => exact ⟨3, by omega, by go_num, hA9, hb9⟩
            case measure => simp [intOf]
          · have ce := (hAr.cell 3).trans rfl
            have cb := Lib.hid (cBig.out (-9223372036854775808) (-4611686018427387904) (by decide) (by decide) (by decide) _ hvb)
            have HH := Lib.hid (And.intro hAr hb)
            clear hAr hb hvb
            go_wp2_with fail
            refine cb.out.mono ?_
            rintro e W9 ⟨rfl, hc⟩
            have hA9 := HH.out.1.below hc HH.out.1.lt
            have hb9 := HH.out.2.trans (hc.mono HH.out.2.size)
            clear HH hc cb ce
            go_wp2_with fail
            go_roundw
            case rel => exact ⟨4, by omega, by go_num, hA9, hb9⟩
            case measure => simp [intOf]
        · obtain rfl : k = 4 := by omega
          have hvb := HV.out.below hb
          clear hAr
          go_wp2_with fail
          refine (works21_any _ hvb).mono ?_
          rintro e W13 ⟨rfl, hc⟩
          have hb13 := hb.trans (hc.mono hb.size)
          clear hb hvb hc
          go_wp2_with fail
          go_ret
          exact ⟨rfl, hb13⟩
end Go.Proofs.YtmhciidliicheaaDoor
