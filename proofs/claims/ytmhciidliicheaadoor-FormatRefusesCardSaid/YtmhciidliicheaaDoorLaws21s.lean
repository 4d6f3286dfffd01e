/- The walk of the law FormatStates (chapter 21). -/
import Derived.Test.YtmhciidliicheaaDoorLaws21n
import Derived.Test.YtmhciidliicheaaDoorNam21c
import Derived.ChangeAgain
namespace Go.Proofs.YtmhciidliicheaaDoor
open Go.RowKit Go.Lib
set_option linter.unusedVariables false

theorem shaped_below {W W' : World} (h : W.ShapedOpen Tryd.prog) (hb : Below W.heap.size W W') : W'.ShapedOpen Tryd.prog := h.keptBut (hb.frame (fun _ => False)) (fun _ q => q.elim)
/-- the abbreviation of a state, by the FORMAT's number -/
def st21 (K O Y : Int) (r : RV) : List UInt8 := if K = 0 then [76, 77, 84] else if K = 1 then (if r.save = 0 then [67, 69, 84] else [67, 69, 83, 84]) else if K = 2 then [69, 69] ++ P4.bl r.letter ++ [84] else if r.save = 0 then P20.text O else P20.text (O + Y)
def kd21 (K : Int) : Int := if K = 0 then 1 else if K = 1 then 2 else if K = 2 then 3 else if K = 3 then 4 else 5
theorem repl21 : ∀ b, P17.isLet b → Lib.replace [69, 69, 37, 115, 84] [37, 115] (P4.bl b) 1 = [69, 69] ++ P4.bl b ++ [84] ∧ 5 + Lib.countB ⟨#[69, 69, 37, 115, 84]⟩ ⟨#[37, 115]⟩ * b.size ≤ 140737488355328 := by
  intro b hb
  rcases hb with rfl | rfl | rfl | rfl <;> decide +kernel
theorem k21_0 : P21.kind [76, 77, 84] = 1 := by decide +kernel
theorem k21_1 : P21.kind [67, 69, 84, 47, 67, 69, 83, 84] = 2 ∧ P21.slash [67, 69, 84, 47, 67, 69, 83, 84] = ([67, 69, 84], [67, 69, 83, 84], true) := by decide +kernel
theorem k21_2 : P21.kind [69, 69, 37, 115, 84] = 3 ∧ P21.pct [69, 69, 37, 115, 84] = ([69, 69], [84], true) ∧ P21.two [69, 69, 37, 115, 84] = false := by decide +kernel
theorem two0 : P21.two [76, 77, 84] = false := by decide +kernel
theorem ee_abbr : ∀ b, P17.isLet b → P21.abbr ([69, 69] ++ P4.bl b ++ [84]) = true := by
  intro b hb
  rcases hb with rfl | rfl | rfl | rfl <;> decide +kernel
/-- the FORMAT's bytes -/
def fb21 (K O Y : Int) : List UInt8 := if K = 0 then [76, 77, 84] else if K = 1 then [67, 69, 84, 47, 67, 69, 83, 84] else if K = 2 then [69, 69, 37, 115, 84] else if K = 3 then [37, 122] else P21.xt O Y
section
variable {K O Y : Int} (hK : K = 0 ∨ K = 1 ∨ K = 2 ∨ K = 3 ∨ K = 4) (hf : P21.Fits O Y)
include hK hf
theorem kd_fb : P21.kind (fb21 K O Y) = kd21 K := by
  rcases hK with rfl | rfl | rfl | rfl | rfl
  · exact k21_0
  · exact k21_1.1
  · exact k21_2.1
  · exact P21.kind_z
  · exact P21.xt_kind hf
theorem abbr_fb {r : RV} (hs : r.save = 0 ∨ r.save = Y) (hl : P17.isLet r.letter) : P21.abbrv (fb21 K O Y) O r.save (P4.bl r.letter) = (st21 K O Y r, 0) := by
  rcases hK with rfl | rfl | rfl | rfl | rfl
  · show P21.abbrv [76, 77, 84] _ _ _ = ([76, 77, 84], 0)
    unfold P21.abbrv
    rw [if_neg (by rw [two0]; decide), k21_0]; rfl
  · show P21.abbrv [67, 69, 84, 47, 67, 69, 83, 84] _ _ _ = (if r.save = 0 then [67, 69, 84] else [67, 69, 83, 84], 0)
    unfold P21.abbrv
    have ht : P21.two [67, 69, 84, 47, 67, 69, 83, 84] = true := by unfold P21.two; rw [k21_1.1, k21_1.2]; rfl
    rw [if_pos ht, k21_1.2]
    by_cases h0 : r.save = 0 <;> simp [h0]
  · show P21.abbrv [69, 69, 37, 115, 84] _ _ _ = ([69, 69] ++ P4.bl r.letter ++ [84], 0)
    unfold P21.abbrv
    rw [if_neg (by rw [k21_2.2.2]; decide), if_pos k21_2.1, k21_2.2.1]
    show P21.out _ _ = _
    rw [ee_abbr _ hl]; rfl
  · exact P21.z_abbr hf hs _
  · exact P21.xt_abbr hf _ _
theorem chk_fb {D : List Int} {L : List RV} (hY : Y = P17.sv D) (hg : P17.Good D ⟨#[82]⟩ L) : P21.check (fb21 K O Y) O 2 0 (lets L) (svs L) = 0 := by
  subst hY
  rcases hK with rfl | rfl | rfl | rfl | rfl
  · show P21.check [76, 77, 84] _ _ _ _ _ = 0
    unfold P21.check
    rw [k21_0]; rfl
  · show P21.check [67, 69, 84, 47, 67, 69, 83, 84] _ _ _ _ _ = 0
    unfold P21.check
    rw [k21_1.1]; rfl
  · show P21.check [69, 69, 37, 115, 84] _ _ _ _ _ = 0
    unfold P21.check
    rw [k21_2.1, if_neg (by decide), if_pos rfl, k21_2.2.1]
    rw [if_pos]
    rw [if_pos rfl, List.all_eq_true]
    intro x hx
    have := hg.lets x hx
    rcases this with rfl | rfl | rfl | rfl <;> decide +kernel
  · exact P21.z_check hf 0 _ hg.other
  · exact P21.xt_check hf 0 _ hg.other
theorem st_len {r : RV} (hl : P17.isLet r.letter) : 3 ≤ (st21 K O Y r).length ∧ (st21 K O Y r).length ≤ 100 := by
  have t1 := P20.text_len O
  have t2 := P20.text_len (O + Y)
  have n1 := P20.text_ne hf.o0 hf.o1
  have n2 := P20.text_ne hf.s0 hf.s1
  have m1 : (P20.text O).length ≠ 0 := fun q => n1 (List.length_eq_zero_iff.1 q)
  have m2 : (P20.text (O + Y)).length ≠ 0 := fun q => n2 (List.length_eq_zero_iff.1 q)
  have hz : (P4.bl r.letter).length ≤ 2 := by rw [P4.bl_len]; exact P17.isLet_size hl
  have key : 3 ≤ (if r.save = 0 then P20.text O else P20.text (O + Y)).length ∧ (if r.save = 0 then P20.text O else P20.text (O + Y)).length ≤ 100 := by split <;> omega
  rcases hK with rfl | rfl | rfl | rfl | rfl
  · exact ⟨by show 3 ≤ 3; decide, by show 3 ≤ 100; decide⟩
  · show 3 ≤ (if r.save = 0 then [67, 69, 84] else [67, 69, 83, 84] : List UInt8).length ∧ (if r.save = 0 then [67, 69, 84] else [67, 69, 83, 84] : List UInt8).length ≤ 100
    split <;> simp
  · have e : (st21 2 O Y r).length = (P4.bl r.letter).length + 3 := by
      show ([69, 69] ++ P4.bl r.letter ++ [84]).length = _
      simp
    omega
  · exact key
  · exact key
omit hf in
theorem st_abbr {r : RV} (h : kd21 K < 4) (hl : P17.isLet r.letter) : P21.abbr (st21 K O Y r) = true := by
  rcases hK with rfl | rfl | rfl | rfl | rfl
  · show P21.abbr [76, 77, 84] = true
    decide +kernel
  · show P21.abbr (if r.save = 0 then [67, 69, 84] else [67, 69, 83, 84]) = true
    split <;> decide +kernel
  · exact ee_abbr _ hl
  · exact absurd h (by decide)
  · exact absurd h (by decide)
theorem st_parse {r : RV} (h : 4 ≤ kd21 K) (hs : r.save = 0 ∨ r.save = Y) : P20.parse (st21 K O Y r) = (O + r.save, 0) := by
  have key : P20.parse (if r.save = 0 then P20.text O else P20.text (O + Y)) = (O + r.save, 0) := by
    by_cases h0 : r.save = 0
    · rw [if_pos h0, h0, Int.add_zero]; exact P20.parse_text hf.o0 hf.o1
    · rw [if_neg h0, hs.resolve_left h0]; exact P20.parse_text hf.s0 hf.s1
  rcases hK with rfl | rfl | rfl | rfl | rfl
  · exact absurd h (by decide)
  · exact absurd h (by decide)
  · exact absurd h (by decide)
  · exact key
  · exact key
end
/-- what the walk wants of the FORMAT -/
structure St21 (W1 : World) (AA : Option Addr) (cB : Nat) (L : List RV) (O : Int) (F : ByteArray) (SR : RV → ByteArray) (KK : Int) : Prop where
  check : ∀ W, Below W1.heap.size W1 W → Calls Tryd.prog 16 #[.agg #[.int .i64 O, .int .i64 2, .int .i64 0, .string ⟨#[82]⟩, .string F, .bool false, .int .i64 0, .int .i64 0, .int .i64 0, .int .i64 0, .int .i64 0, .int .i64 0, .int .i64 0], .slice AA L.length cB] W fun e w' => e = .returned (.int .i64 0) ∧ Below W.heap.size W w'
  abbr : ∀ r ∈ L, ∀ W, Below W1.heap.size W1 W → Calls Tryd.prog 17 #[.string F, .int .i64 O, .agg #[.int .i64 r.save, .string r.letter]] W fun e w' => e = .returned (.tuple #[.string (SR r), .int .i64 0]) ∧ Below W.heap.size W w'
  len : ∀ r ∈ L, 3 ≤ (SR r).size
  kind : ∀ W, Below W1.heap.size W1 W → Calls Tryd.prog 18 #[.string F] W fun e w' => e = .returned (.int .i64 KK) ∧ Below W.heap.size W w'
  way : (4 ≤ KK ∧ ∀ r ∈ L, (-9223372036854775808 ≤ O + r.save ∧ O + r.save ≤ 9223372036854775807) ∧ ∀ W, Below W1.heap.size W1 W → Calls Tryd.prog 19 #[.string (SR r)] W fun e w' => e = .returned (.tuple #[.int .i64 (O + r.save), .int .i64 0]) ∧ Below W.heap.size W w') ∨ (KK < 4 ∧ (∀ r ∈ L, ∀ W, Below W1.heap.size W1 W → Calls Tryd.prog 20 #[.string (SR r)] W fun e w' => e = .returned (.bool true) ∧ Below W.heap.size W w') ∧ (KK ≠ 3 ∨ (KK = 3 ∧ ∀ r ∈ L, ∀ W, Below W1.heap.size W1 W → Calls Tryd.prog 21 #[.string F, .string ⟨#[37, 115]⟩, .string r.letter, .int .i64 1] W fun e w' => e = .returned (.string (SR r)) ∧ Below W.heap.size W w')))
theorem st21_any {D : List Int} {L : List RV} {W1 : World} {AA : Option Addr} {cB : Nat} {K O : Int} (hK : K = 0 ∨ K = 1 ∨ K = 2 ∨ K = 3 ∨ K = 4) (hg : P17.Good D ⟨#[82]⟩ L) (hR : RulesIn W1 AA L) (hv : Vars21 W1) (hsh : W1.ShapedOpen Tryd.prog) (hf : P21.Fits O (P17.sv D)) :
    St21 W1 AA cB L O (str (fb21 K O (P17.sv D))) (fun r => str (st21 K O (P17.sv D) r)) (kd21 K) := by
  have hfz : (str (fb21 K O (P17.sv D))).size ≤ 100 := by
    have := xs21_size O (P17.sv D)
    rcases hK with rfl | rfl | rfl | rfl | rfl
    · show 3 ≤ 100; decide
    · show 8 ≤ 100; decide
    · show 5 ≤ 100; decide
    · show 2 ≤ 100; decide
    · exact this
  have hbl : P4.bl (str (fb21 K O (P17.sv D))) = fb21 K O (P17.sv D) := str_data _
  have hsl : ∀ r, P4.bl (str (st21 K O (P17.sv D) r)) = st21 K O (P17.sv D) r := fun _ => str_data _
  have hc := P17.sv_cases D
  refine ⟨fun W h => ?_, fun r hr W h => ?_, fun r hr => ?_, fun W h => ?_, ?_⟩
  · have q := fcheck_any O 2 0 ⟨#[82]⟩ (str (fb21 K O (P17.sv D))) false 0 0 0 0 0 0 0 AA L cB W ⟨by have := hf.o0; omega, by have := hf.o1; omega⟩ ⟨by decide, by decide⟩ (by have := hg.five; omega) hg.svOk (fun r hr => by have := P17.isLet_size (hg.letters r hr); omega) (by omega) (hR.below h) (hv.below h)
    rw [hbl, chk_fb hK hf rfl hg] at q
    exact q
  · have hs := hg.saves r hr
    have q := fabbr_any (str (fb21 K O (P17.sv D))) O r.save r.letter W (by omega) (by have := P17.isLet_size (hg.letters r hr); omega) ⟨by have := hf.o0; omega, by have := hf.o1; omega⟩ ⟨by omega, by omega⟩ (hv.below h)
    rw [hbl, abbr_fb hK hf hs (hg.letters r hr)] at q
    exact q
  · rw [str_size]; exact (st_len hK hf (hg.letters r hr)).1
  · have q := kind_any (str (fb21 K O (P17.sv D))) W (by omega) (hv.below h)
    rw [hbl, kd_fb hK hf] at q
    exact q
  · by_cases h4 : 4 ≤ kd21 K
    · refine .inl ⟨h4, fun r hr => ⟨?_, fun W h => ?_⟩⟩
      · have := hf.o0; have := hf.o1; have := hg.saves r hr; omega
      · have q := nparse_any (str (st21 K O (P17.sv D) r)) W (by rw [str_size]; have := (st_len hK hf (hg.letters r hr)).2; omega) (hv.below h).num
        rw [hsl, st_parse hK hf h4 (hg.saves r hr)] at q
        exact q
    · refine .inr ⟨by omega, fun r hr W h => ?_, ?_⟩
      · have q := abbr_any (str (st21 K O (P17.sv D) r)) W (by rw [str_size]; have := (st_len hK hf (hg.letters r hr)).2; omega)
        rw [hsl, st_abbr hK (by omega) (hg.letters r hr)] at q
        exact q
      · by_cases h3 : kd21 K = 3
        · refine .inr ⟨h3, fun r hr W h => ?_⟩
          have hk2 : K = 2 := by
            rcases hK with rfl | rfl | rfl | rfl | rfl
            · exact absurd h3 (by decide)
            · exact absurd h3 (by decide)
            · rfl
            · exact absurd h3 (by decide)
            · exact absurd h3 (by decide)
          subst hk2
          have hrp := repl21 r.letter (hg.letters r hr)
          have q := Tryd.strings_Replace_shaped ⟨#[69, 69, 37, 115, 84]⟩ ⟨#[37, 115]⟩ r.letter 1 W (shaped_below hsh h) (by decide) (by decide) hrp.2
          exact q.mono fun e w' ⟨he, hb⟩ => ⟨he.trans (congrArg (fun l : List UInt8 => Ending.returned (Value.string ⟨l.toArray⟩)) hrp.1), hb⟩
        · exact .inl h3
set_option maxRecDepth 100000 in
set_option maxHeartbeats 16000000 in
theorem walkFormatStates (A : Option Addr) (c : Nat) (D : List Int) (off kind : Int) (w : World) (hl : D.length ≤ maxLen) (hF : CellsIn 1 u8Cell w A D) (hG : ∀ n ∈ D, 0 ≤ n ∧ n ≤ 255) (ho : 0 ≤ off ∧ off ≤ 255) (ht : 0 ≤ kind ∧ kind ≤ 255) (hvs : Vars21 w ∧ w.ShapedOpen Tryd.prog) :
    Calls Tryd.prog 3 #[.slice A D.length c, .int .u8 off, .int .u8 kind] w fun e w' => e = .returned (.bool true) ∧ Below w.heap.size w w' := by
  have cM := Lib.hid (made17_any A c D ⟨#[82]⟩ w ⟨hl, hF, hG⟩)
  have hGd := P17.made_good D ⟨#[82]⟩
  generalize P17.made D ⟨#[82]⟩ = L at *
  have HV := Lib.hid hvs
  clear hl hF hG hvs
  generalize D.length = ND at *
  go_enter Tryd.func3, Tryd.ntmps3
  go_wp2_with fail
  refine cM.out.mono ?_
  rintro e W1 ⟨⟨v, rfl, hown⟩, hb1⟩
  obtain ⟨B, cB, rfl, hB, hBl, hcap, hR⟩ := rules_of_own17 hown rfl (by have := hGd.two; omega)
  clear hown hcap hB hBl cM
  generalize (some ⟨B, 0, none⟩ : Option Addr) = AA at *
  have cE := Lib.hid (era21_any AA cB L off kind W1 ho ht (by have := hGd.five; omega) hGd.svOk hR)
  have hOb := offOf_bd ho.1
  have hf := fits_of (D := D) (off := offOf off) (by omega)
  have hv1 := HV.out.1.below hb1
  have hs1 := shaped_below HV.out.2 hb1
  have hK : kind.tmod 5 = kind % 5 := Int.tmod_eq_emod_of_nonneg ht.1
  have hKb : kind % 5 = 0 ∨ kind % 5 = 1 ∨ kind % 5 = 2 ∨ kind % 5 = 3 ∨ kind % 5 = 4 := by omega
  rw [← hK] at hKb
  clear hK
  generalize kind.tmod 5 = K at *
  have hfm : fmt21 K off L = str (fb21 K (offOf off) (P17.sv D)) := by
    unfold fmt21 fb21
    rw [P21.xt_exp hf 0 hGd.other]
    rcases hKb with rfl | rfl | rfl | rfl | rfl <;> rfl
  have hSt := Lib.hid (st21_any (cB := cB) hKb hGd hR hv1 hs1 hf)
  rw [hfm] at cE
  generalize offOf off = O at *
  generalize str (fb21 K O (P17.sv D)) = FS at *
  generalize (fun r => str (st21 K O (P17.sv D) r)) = SR at *
  generalize kd21 K = KK at *
  have HR := Lib.hid hR
  have HL := Lib.hid (show 2 ≤ L.length ∧ L.length ≤ 5 from ⟨hGd.two, hGd.five⟩)
  clear hGd hR hf hv1 hs1 hKb hfm
  obtain ⟨O0, O1⟩ := hOb
  clear ho ht
  generalize hNR : L.length = NR at *
  have HNR := Lib.hid hNR
  clear hNR
  go_wp2_with fail
  refine cE.out.mono ?_
  rintro e W2 ⟨rfl, hc⟩
  have hb2 := hc.alloc hc.size (.cells #[.int .i64 O, .int .i64 2, .int .i64 0, .string ⟨#[82]⟩, .string FS, .bool false, .int .i64 0, .int .i64 0, .int .i64 0, .int .i64 0, .int .i64 0, .int .i64 0, .int .i64 0] 33)
  have hE2 := Blk.new W2 33 #[.int .i64 O, .int .i64 2, .int .i64 0, .string ⟨#[82]⟩, .string FS, .bool false, .int .i64 0, .int .i64 0, .int .i64 0, .int .i64 0, .int .i64 0, .int .i64 0, .int .i64 0]
  clear hc cE
  have cC := hSt.out.check
  rw [HNR.out] at cC
  have CC := Lib.hid cC
  clear cC
  go_wp2_with fail
  refine (CC.out _ hb2).mono ?_
  rintro e W3 ⟨rfl, hc⟩
  have hb3 := hb2.trans (hc.mono hb2.size)
  have hE3 := hE2.below hc hE2.lt
  clear hb2 hE2 hc CC
  generalize W2.heap.size = G2 at *
  have hN2 : 2 ≤ NR := HL.out.1
  have hN5 : (NR : Int) ≤ 5 := by have := HL.out.2; omega
  have cK := Lib.hid hSt.out.kind
  go_wp2_with fail
  go_loopw [28] (fun i wr => ∃ k : Nat, k ≤ NR ∧ i = .int .i64 (k : Int) ∧ Blk wr G2 33 #[.int .i64 O, .int .i64 2, .int .i64 0, .string ⟨#[82]⟩, .string FS, .bool false, .int .i64 0, .int .i64 0, .int .i64 0, .int .i64 0, .int .i64 0, .int .i64 0, .int .i64 0] ∧ Below W1.heap.size W1 wr) (fun i _ => NR - (intOf i).toNat)
  case atStart => exact ⟨0, by omega, rfl, hE3, hb3⟩
  case round =>
    clear hE3 hb3
    obtain ⟨k, hk, rfl, hF, hb⟩ := hrel
    by_cases hlt : k < NR
    · obtain ⟨r, hr⟩ : ∃ r, L[k]? = some r := ⟨_, List.getElem?_eq_getElem (by rw [HNR.out]; exact hlt)⟩
      have hki : (k : Int) < (NR : Int) := by omega
      have hm := List.mem_of_getElem? hr
      have cA := Lib.hid (hSt.out.abbr r hm)
      have hln := hSt.out.len r hm
      have hw := hSt.out.way
      obtain ⟨b, o, rfl, hbl, q0, q1, q2, q3, q4, q5, q6, q7, q8, q9, q10⟩ := (HR.out.below hb).get k r hr
      have hw2 : Hid ((4 ≤ KK ∧ (-9223372036854775808 ≤ O + r.save ∧ O + r.save ≤ 9223372036854775807) ∧ ∀ W, Below W1.heap.size W1 W → Calls Tryd.prog 19 #[.string (SR r)] W fun e w' => e = .returned (.tuple #[.int .i64 (O + r.save), .int .i64 0]) ∧ Below W.heap.size W w') ∨ (KK < 4 ∧ (∀ W, Below W1.heap.size W1 W → Calls Tryd.prog 20 #[.string (SR r)] W fun e w' => e = .returned (.bool true) ∧ Below W.heap.size W w') ∧ (KK ≠ 3 ∨ (KK = 3 ∧ ∀ W, Below W1.heap.size W1 W → Calls Tryd.prog 21 #[.string FS, .string ⟨#[37, 115]⟩, .string r.letter, .int .i64 1] W fun e w' => e = .returned (.string (SR r)) ∧ Below W.heap.size W w')))) := Lib.hid (by
        rcases hw with ⟨h4, h⟩ | ⟨h4, h, h3⟩
        · exact .inl ⟨h4, (h r hm).1, (h r hm).2⟩
        · exact .inr ⟨h4, h r hm, h3.imp id fun ⟨a, h⟩ => ⟨a, h r hm⟩⟩)
      clear hw hm hr hSt
      generalize SR r = S at *
      obtain ⟨rn, rf, rt, rm, rk, rw_, rd, rs, rb, sv, lt⟩ := r
      simp only at cA hw2 q0 q1 q2 q3 q4 q5 q6 q7 q8 q9 q10
      have hSz : ¬ ((S.size : Int) < 3) := by omega
      have hb8 := hb.alloc hb.size (.cells #[.string rn, .int .i64 rf, .int .i64 rt, .int .i64 rm, .int .i64 rk, .int .i64 rw_, .int .i64 rd, .int .i64 rs, .int .i64 rb, .int .i64 sv, .string lt] 38)
      have hF8 := hF.alloc (.cells #[.string rn, .int .i64 rf, .int .i64 rt, .int .i64 rm, .int .i64 rk, .int .i64 rw_, .int .i64 rd, .int .i64 rs, .int .i64 rb, .int .i64 sv, .string lt] 38)
      have hS8 := Blk.new wr 38 #[.string rn, .int .i64 rf, .int .i64 rt, .int .i64 rm, .int .i64 rk, .int .i64 rw_, .int .i64 rd, .int .i64 rs, .int .i64 rb, .int .i64 sv, .string lt]
      have x0 := (hF8.cell 0).trans rfl
      have x4 := (hF8.cell 4).trans rfl
      clear hF hb hbl hln
      go_wp2_with fail
      refine (cA.out _ hb8).mono ?_
      rintro e W9 ⟨rfl, hc⟩
      have hb9 := hb8.trans (hc.mono hb8.size)
      have hF9 := hF8.below hc hF8.lt
      have hS9 := hS8.below hc hS8.lt
      clear hb8 hF8 hS8 hc x0 x4 cA q0 q1 q2 q3 q4 q5 q6 q7 q8 q9 q10
      have x4 := (hF9.cell 4).trans rfl
      go_wp2_with fail
      refine (cK.out _ hb9).mono ?_
      rintro e W10 ⟨rfl, hc⟩
      have hb10 := hb9.trans (hc.mono hb9.size)
      have hF10 := hF9.below hc hF9.lt
      have hS10 := hS9.below hc hS9.lt
      clear hb9 hF9 hS9 hc x4 cK
      generalize wr.heap.size = G3 at *
      rcases hw2.out with ⟨h4, ⟨hp0, hp1⟩, hP⟩ | ⟨h4, hA, h3⟩
      · have cP := Lib.hid hP
        clear hP hw2
        go_wp2_with fail
        refine (cP.out _ hb10).mono ?_
        rintro e W11 ⟨rfl, hc⟩
        have hb11 := hb10.trans (hc.mono hb10.size)
        have hF11 := hF10.below hc hF10.lt
        have hS11 := hS10.below hc hS10.lt
        clear hb10 hF10 hS10 hc cP
        have x0 := (hF11.cell 0).trans rfl
        have s9 := (hS11.cell 9).trans rfl
        have wo : IntKind.i64.wrap (O + sv) = O + sv := IntWalk.i64_in _ ⟨hp0, hp1⟩
        go_wp2_with fail
        go_roundw
        case rel => exact ⟨k + 1, by omega, by go_num, hF11, hb11⟩
        case measure => simp [intOf]; omega
      · have cP := Lib.hid hA
        clear hA hw2
        have h4' : ¬ (4 ≤ KK) := by omega
        go_wp2_with fail
        refine (cP.out _ hb10).mono ?_
        rintro e W11 ⟨rfl, hc⟩
        have hb11 := hb10.trans (hc.mono hb10.size)
        have hF11 := hF10.below hc hF10.lt
        have hS11 := hS10.below hc hS10.lt
        clear hb10 hF10 hS10 hc cP
        rcases h3 with h3 | ⟨rfl, hRp⟩
        · have b3 : (KK == 3) = false := by rw [beq_eq_false_iff_ne]; exact h3
          go_wp2_with fail
          go_roundw
          case rel => exact ⟨k + 1, by omega, by go_num, hF11, hb11⟩
          case measure => simp [intOf]; omega
        · have cR := Lib.hid hRp
          clear hRp
          have x4 := (hF11.cell 4).trans rfl
          have s10 := (hS11.cell 10).trans rfl
          go_wp2_with fail
          refine (cR.out _ hb11).mono ?_
          rintro e W12 ⟨rfl, hc⟩
          have hb12 := hb11.trans (hc.mono hb11.size)
          have hF12 := hF11.below hc hF11.lt
          clear hb11 hF11 hS11 hc cR x4 s10
          go_wp2_with fail
          go_roundw
          case rel => exact ⟨k + 1, by omega, by go_num, hF12, hb12⟩
          case measure => simp [intOf]; omega
    · obtain rfl : k = NR := by omega
      have hb12 := hb1.trans (hb.mono hb1.size)
      have hv12 := HV.out.1.below hb12
      clear hF hb hSt
      go_wp2_with fail
      refine (works21_any _ hv12).mono ?_
      rintro e W13 ⟨rfl, hc⟩
      have hb13 := hb12.trans (hc.mono hb12.size)
      clear hb12 hv12 hc
      go_wp2_with fail
      go_ret
      exact ⟨rfl, hb13⟩
end Go.Proofs.YtmhciidliicheaaDoor
