/- The walk of the law FormatNumbers (chapter 21). -/
import Derived.Test.YtmhciidliicheaaDoorEra21
import Derived.Test.YtmhciidliicheaaDoorWork21
import Derived.OpenShut
namespace Go.Proofs.YtmhciidliicheaaDoor
open Go.RowKit Go.Lib
set_option linter.unusedVariables false

/-- what stands for %z, as a string -/
def xs21 (O Y : Int) : ByteArray := str (P21.xt O Y)
theorem xs21_bl (O Y : Int) : P4.bl (xs21 O Y) = P21.xt O Y := str_data _
theorem xs21_size (O Y : Int) : (xs21 O Y).size ≤ 100 := by
  have h1 := P20.text_len O
  have h2 := P20.text_len (O + Y)
  unfold xs21 P21.xt
  rw [str_size, List.length_append, List.length_cons]
  omega
/-- the abbreviation of a rule's save -/
def ab21 (O Y s : Int) : ByteArray := str (if s = 0 then P20.text O else P20.text (O + Y))
section
variable {D : List Int} {L : List RV} {W1 : World} {AA : Option Addr} {cB : Nat} {O : Int} (hg : P17.Good D ⟨#[82]⟩ L) (hR : RulesIn W1 AA L) (hv : Vars21 W1) (hf : P21.Fits O (P17.sv D))
include hg hR hf
theorem exp21 (f : ByteArray) (W : World) (h : Below W1.heap.size W1 W) : Calls Tryd.prog 23 #[.agg #[.int .i64 O, .int .i64 2, .int .i64 0, .string ⟨#[82]⟩, .string f, .bool false, .int .i64 0, .int .i64 0, .int .i64 0, .int .i64 0, .int .i64 0, .int .i64 0, .int .i64 0], .slice AA L.length cB] W fun e w' => e = .returned (.tuple #[.string (xs21 O (P17.sv D)), .int .i64 0]) ∧ Below W.heap.size W w' := by
  have q := expansion_any O 2 0 ⟨#[82]⟩ f false 0 0 0 0 0 0 0 AA L cB W ⟨by have := hf.o0; omega, by have := hf.o1; omega⟩ ⟨by decide, by decide⟩ (by have := hg.five; omega) hg.svOk (hR.below h)
  rw [P21.xt_exp hf 0 hg.other] at q
  exact q
include hv
theorem chkz21 (W : World) (h : Below W1.heap.size W1 W) : Calls Tryd.prog 16 #[.agg #[.int .i64 O, .int .i64 2, .int .i64 0, .string ⟨#[82]⟩, .string ⟨#[37, 122]⟩, .bool false, .int .i64 0, .int .i64 0, .int .i64 0, .int .i64 0, .int .i64 0, .int .i64 0, .int .i64 0], .slice AA L.length cB] W fun e w' => e = .returned (.int .i64 0) ∧ Below W.heap.size W w' := by
  have q := fcheck_any O 2 0 ⟨#[82]⟩ ⟨#[37, 122]⟩ false 0 0 0 0 0 0 0 AA L cB W ⟨by have := hf.o0; omega, by have := hf.o1; omega⟩ ⟨by decide, by decide⟩ (by have := hg.five; omega) hg.svOk (fun r hr => by have := P17.isLet_size (hg.letters r hr); omega) (by decide) (hR.below h) (hv.below h)
  rw [show P4.bl ⟨#[37, 122]⟩ = [37, 122] from rfl, P21.z_check hf 0 _ hg.other] at q
  exact q
theorem chkx21 (W : World) (h : Below W1.heap.size W1 W) : Calls Tryd.prog 16 #[.agg #[.int .i64 O, .int .i64 2, .int .i64 0, .string ⟨#[82]⟩, .string (xs21 O (P17.sv D)), .bool false, .int .i64 0, .int .i64 0, .int .i64 0, .int .i64 0, .int .i64 0, .int .i64 0, .int .i64 0], .slice AA L.length cB] W fun e w' => e = .returned (.int .i64 0) ∧ Below W.heap.size W w' := by
  have q := fcheck_any O 2 0 ⟨#[82]⟩ (xs21 O (P17.sv D)) false 0 0 0 0 0 0 0 AA L cB W ⟨by have := hf.o0; omega, by have := hf.o1; omega⟩ ⟨by decide, by decide⟩ (by have := hg.five; omega) hg.svOk (fun r hr => by have := P17.isLet_size (hg.letters r hr); omega) (by have := xs21_size O (P17.sv D); omega) (hR.below h) (hv.below h)
  rw [xs21_bl, P21.xt_check hf 0 _ hg.other] at q
  exact q
theorem chkw21 (O2 : Int) (hf2 : P21.Fits O2 (P17.sv D)) (hne : O2 ≠ O) (W : World) (h : Below W1.heap.size W1 W) : Calls Tryd.prog 16 #[.agg #[.int .i64 O2, .int .i64 2, .int .i64 0, .string ⟨#[82]⟩, .string (xs21 O (P17.sv D)), .bool false, .int .i64 0, .int .i64 0, .int .i64 0, .int .i64 0, .int .i64 0, .int .i64 0, .int .i64 0], .slice AA L.length cB] W fun e w' => e = .returned (.int .i64 15) ∧ Below W.heap.size W w' := by
  have q := fcheck_any O2 2 0 ⟨#[82]⟩ (xs21 O (P17.sv D)) false 0 0 0 0 0 0 0 AA L cB W ⟨by have := hf2.o0; omega, by have := hf2.o1; omega⟩ ⟨by decide, by decide⟩ (by have := hg.five; omega) hg.svOk (fun r hr => by have := P17.isLet_size (hg.letters r hr); omega) (by have := xs21_size O (P17.sv D); omega) (hR.below h) (hv.below h)
  rw [xs21_bl, P21.xt_wrong hf hf2 hne 0 _ hg.other] at q
  exact q
omit hg hR in
theorem kndx21 (W : World) (h : Below W1.heap.size W1 W) : Calls Tryd.prog 18 #[.string (xs21 O (P17.sv D))] W fun e w' => e = .returned (.int .i64 5) ∧ Below W.heap.size W w' := by
  have q := kind_any (xs21 O (P17.sv D)) W (by have := xs21_size O (P17.sv D); omega) (hv.below h)
  rw [xs21_bl, P21.xt_kind hf] at q
  exact q
omit hR in
theorem abz21 (r : RV) (hr : r ∈ L) (W : World) (h : Below W1.heap.size W1 W) : Calls Tryd.prog 17 #[.string ⟨#[37, 122]⟩, .int .i64 O, .agg #[.int .i64 r.save, .string r.letter]] W fun e w' => e = .returned (.tuple #[.string (ab21 O (P17.sv D) r.save), .int .i64 0]) ∧ Below W.heap.size W w' := by
  have hs := hg.saves r hr
  have hc := P17.sv_cases D
  have q := fabbr_any ⟨#[37, 122]⟩ O r.save r.letter W (by decide) (by have := P17.isLet_size (hg.letters r hr); omega) ⟨by have := hf.o0; omega, by have := hf.o1; omega⟩ ⟨by omega, by omega⟩ (hv.below h)
  rw [show P4.bl ⟨#[37, 122]⟩ = [37, 122] from rfl, P21.z_abbr hf hs] at q
  exact q
omit hR in
theorem abx21 (r : RV) (hr : r ∈ L) (W : World) (h : Below W1.heap.size W1 W) : Calls Tryd.prog 17 #[.string (xs21 O (P17.sv D)), .int .i64 O, .agg #[.int .i64 r.save, .string r.letter]] W fun e w' => e = .returned (.tuple #[.string (ab21 O (P17.sv D) r.save), .int .i64 0]) ∧ Below W.heap.size W w' := by
  have hs := hg.saves r hr
  have hc := P17.sv_cases D
  have q := fabbr_any (xs21 O (P17.sv D)) O r.save r.letter W (by have := xs21_size O (P17.sv D); omega) (by have := P17.isLet_size (hg.letters r hr); omega) ⟨by have := hf.o0; omega, by have := hf.o1; omega⟩ ⟨by omega, by omega⟩ (hv.below h)
  rw [xs21_bl, P21.xt_abbr hf] at q
  exact q
end
set_option maxRecDepth 100000 in
set_option maxHeartbeats 16000000 in
theorem walkFormatNumbers (A : Option Addr) (c : Nat) (D : List Int) (off other : Int) (w : World) (hl : D.length ≤ maxLen) (hF : CellsIn 1 u8Cell w A D) (hG : ∀ n ∈ D, 0 ≤ n ∧ n ≤ 255) (ho : 0 ≤ off ∧ off ≤ 255) (ht : 0 ≤ other ∧ other ≤ 255) (hv : Vars21 w) :
    Calls Tryd.prog 4 #[.slice A D.length c, .int .u8 off, .int .u8 other] w fun e w' => e = .returned (.bool true) ∧ Below w.heap.size w w' := by
  have cM := Lib.hid (made17_any A c D ⟨#[82]⟩ w ⟨hl, hF, hG⟩)
  have hGd := P17.made_good D ⟨#[82]⟩
  generalize P17.made D ⟨#[82]⟩ = L at *
  have HV := Lib.hid hv
  clear hl hF hG hv
  generalize D.length = ND at *
  go_enter Tryd.func4, Tryd.ntmps4
  go_wp2_with fail
  refine cM.out.mono ?_
  rintro e W1 ⟨⟨v, rfl, hown⟩, hb1⟩
  obtain ⟨B, cB, rfl, hB, hBl, hcap, hR⟩ := rules_of_own17 hown rfl (by have := hGd.two; omega)
  clear hown hcap hB hBl cM
  generalize (some ⟨B, 0, none⟩ : Option Addr) = AA at *
  have cE := Lib.hid (era21_any AA cB L off 3 W1 ho (by decide) (by have := hGd.five; omega) hGd.svOk hR)
  have hOb := offOf_bd ho.1
  have hf := fits_of (D := D) (off := offOf off) (by omega)
  have hv1 := HV.out.below hb1
  have hM : other.tmod 20 = other % 20 := Int.tmod_eq_emod_of_nonneg ht.1
  have hMb : 0 ≤ other % 20 ∧ other % 20 ≤ 19 := by omega
  rw [← hM] at hMb
  clear hM
  obtain ⟨M, hMM⟩ : ∃ M, other.tmod 20 = M := ⟨_, rfl⟩
  rw [hMM] at hMb
  rw [show fmt21 ((3 : Int).tmod 5) off L = ⟨#[37, 122]⟩ from rfl] at cE
  have hf2 := fits_of (D := D) (off := offOf off + (1 + M) * 900) (by omega)
  generalize offOf off = O at *
  have cX := Lib.hid (exp21 (cB := cB) hGd hR hf ⟨#[37, 122]⟩)
  have cZ := Lib.hid (chkz21 (cB := cB) hGd hR hv1 hf)
  have cC := Lib.hid (chkx21 (cB := cB) hGd hR hv1 hf)
  have cW2 := Lib.hid (chkw21 (cB := cB) hGd hR hv1 hf (O + (1 + M) * 900) hf2 (by omega))
  have cK := Lib.hid (kndx21 hv1 hf)
  have cAz := Lib.hid (abz21 hGd hv1 hf)
  have cAx := Lib.hid (abx21 hGd hv1 hf)
  have HG := Lib.hid hGd
  have HR := Lib.hid hR
  clear hGd hR hf hf2 hv1
  generalize xs21 O (P17.sv D) = XS at *
  obtain ⟨M0, M1⟩ := hMb
  obtain ⟨O0, O1⟩ := hOb
  obtain ⟨o0, o1⟩ := ho
  obtain ⟨t0, t1⟩ := ht
  go_wp2_with fail
  refine cE.out.mono ?_
  rintro e W2 ⟨rfl, hc⟩
  have hb2 := hc.alloc hc.size (.cells #[.int .i64 O, .int .i64 2, .int .i64 0, .string ⟨#[82]⟩, .string ⟨#[37, 122]⟩, .bool false, .int .i64 0, .int .i64 0, .int .i64 0, .int .i64 0, .int .i64 0, .int .i64 0, .int .i64 0] 33)
  have hE2 := Blk.new W2 33 #[.int .i64 O, .int .i64 2, .int .i64 0, .string ⟨#[82]⟩, .string ⟨#[37, 122]⟩, .bool false, .int .i64 0, .int .i64 0, .int .i64 0, .int .i64 0, .int .i64 0, .int .i64 0, .int .i64 0]
  clear hc cE
  go_wp2_with fail
  refine (cX.out _ hb2).mono ?_
  rintro e W3 ⟨rfl, hc⟩
  have hb3 := (hb2.trans (hc.mono hb2.size)).alloc (Nat.le_trans hb2.size hc.size) (.cells #[.int .i64 O, .int .i64 2, .int .i64 0, .string ⟨#[82]⟩, .string XS, .bool false, .int .i64 0, .int .i64 0, .int .i64 0, .int .i64 0, .int .i64 0, .int .i64 0, .int .i64 0] 33)
  have hE3 := (hE2.below hc hE2.lt).alloc (.cells #[.int .i64 O, .int .i64 2, .int .i64 0, .string ⟨#[82]⟩, .string XS, .bool false, .int .i64 0, .int .i64 0, .int .i64 0, .int .i64 0, .int .i64 0, .int .i64 0, .int .i64 0] 33)
  have hF3 := Blk.new W3 33 #[.int .i64 O, .int .i64 2, .int .i64 0, .string ⟨#[82]⟩, .string XS, .bool false, .int .i64 0, .int .i64 0, .int .i64 0, .int .i64 0, .int .i64 0, .int .i64 0, .int .i64 0]
  have hE3' := hE2.below hc hE2.lt
  have hb3w := Lib.hid (Nat.le_trans hb2.size hc.size)
  have y0 := (hE3'.cell 0).trans rfl
  have y1 := (hE3'.cell 1).trans rfl
  have y2 := (hE3'.cell 2).trans rfl
  have y3 := (hE3'.cell 3).trans rfl
  have y4 := (hE3'.cell 4).trans rfl
  have y5 := (hE3'.cell 5).trans rfl
  have y6 := (hE3'.cell 6).trans rfl
  have y7 := (hE3'.cell 7).trans rfl
  have y8 := (hE3'.cell 8).trans rfl
  have y9 := (hE3'.cell 9).trans rfl
  have y10 := (hE3'.cell 10).trans rfl
  have y11 := (hE3'.cell 11).trans rfl
  have y12 := (hE3'.cell 12).trans rfl
  clear hE2 hb2 hc cX hE3'
  have E0 := Lib.hid (And.intro hb3 (And.intro hE3 hF3))
  clear hb3 hE3 hF3
  go_upto_region 8 with fail
  obtain ⟨hb3, hE3, hF3⟩ := E0.out
  clear y0 y1 y2 y3 y4 y5 y6 y7 y8 y9 y10 y11 y12
  generalize W2.heap.size = G1 at *
  have HG2 : Hid (W1.heap.size ≤ W3.heap.size) := Lib.hid (by have := hF3.lt; have := hb3w.out; omega)
  generalize hG2 : W3.heap.size = G2 at *
  generalize hW4 : W3.alloc (.cells #[.int .i64 O, .int .i64 2, .int .i64 0, .string ⟨#[82]⟩, .string XS, .bool false, .int .i64 0, .int .i64 0, .int .i64 0, .int .i64 0, .int .i64 0, .int .i64 0, .int .i64 0] 33) = W4 at *
  clear hW4 hG2 E0
  have hw4 : W1.heap.size ≤ W4.heap.size := hb3.size
  have y0 := (hE3.cell 0).trans rfl
  have y1 := (hE3.cell 1).trans rfl
  have y2 := (hE3.cell 2).trans rfl
  have y3 := (hE3.cell 3).trans rfl
  have y4 := (hE3.cell 4).trans rfl
  have y5 := (hE3.cell 5).trans rfl
  have y6 := (hE3.cell 6).trans rfl
  have y7 := (hE3.cell 7).trans rfl
  have y8 := (hE3.cell 8).trans rfl
  have y9 := (hE3.cell 9).trans rfl
  have y10 := (hE3.cell 10).trans rfl
  have y11 := (hE3.cell 11).trans rfl
  have y12 := (hE3.cell 12).trans rfl
  have HL := Lib.hid (show 2 ≤ L.length ∧ L.length ≤ 5 from ⟨HG.out.two, HG.out.five⟩)
  generalize hNR : L.length = NR at *
  have HNR := Lib.hid hNR
  clear hNR
  go_wp2_with fail
  refine (cZ.out _ hb3).mono ?_
  rintro e W5 ⟨rfl, hc⟩
  have hb5 := hb3.trans (hc.mono hb3.size)
  have hF5 := hF3.below hc hF3.lt
  clear cZ hb3 hE3 hF3 hc hw4 y0 y1 y2 y3 y4 y5 y6 y7 y8 y9 y10 y11 y12
  have z0 := (hF5.cell 0).trans rfl
  have z1 := (hF5.cell 1).trans rfl
  have z2 := (hF5.cell 2).trans rfl
  have z3 := (hF5.cell 3).trans rfl
  have z4 := (hF5.cell 4).trans rfl
  have z5 := (hF5.cell 5).trans rfl
  have z6 := (hF5.cell 6).trans rfl
  have z7 := (hF5.cell 7).trans rfl
  have z8 := (hF5.cell 8).trans rfl
  have z9 := (hF5.cell 9).trans rfl
  have z10 := (hF5.cell 10).trans rfl
  have z11 := (hF5.cell 11).trans rfl
  have z12 := (hF5.cell 12).trans rfl
  go_wp2_with fail
  refine (cC.out _ hb5).mono ?_
  rintro e W6 ⟨rfl, hc⟩
  have hb6 := hb5.trans (hc.mono hb5.size)
  have hF6 := hF5.below hc hF5.lt
  clear cC hb5 hF5 hc z0 z1 z2 z3 z4 z5 z6 z7 z8 z9 z10 z11 z12
  go_wp2_with fail
  refine (cK.out _ hb6).mono ?_
  rintro e W7 ⟨rfl, hc⟩
  have hb7 := hb6.trans (hc.mono hb6.size)
  have hF7 := hF6.below hc hF6.lt
  clear cK hb6 hF6 hc
  have hN2 : 2 ≤ NR := HL.out.1
  have hN5 : (NR : Int) ≤ 5 := by have := HL.out.2; omega
  go_wp2_with fail
  go_loopw [52] (fun i wr => ∃ k : Nat, k ≤ NR ∧ i = .int .i64 (k : Int) ∧ Blk wr G2 33 #[.int .i64 O, .int .i64 2, .int .i64 0, .string ⟨#[82]⟩, .string XS, .bool false, .int .i64 0, .int .i64 0, .int .i64 0, .int .i64 0, .int .i64 0, .int .i64 0, .int .i64 0] ∧ Below W1.heap.size W1 wr) (fun i _ => NR - (intOf i).toNat)
  case atStart => exact ⟨0, by omega, rfl, hF7, hb7⟩
  case round =>
    clear hF7 hb7
    obtain ⟨k, hk, rfl, hF, hb⟩ := hrel
    by_cases hlt : k < NR
    · obtain ⟨r, hr⟩ : ∃ r, L[k]? = some r := ⟨_, List.getElem?_eq_getElem (by rw [HNR.out]; exact hlt)⟩
      have hki : (k : Int) < (NR : Int) := by omega
      have hm := List.mem_of_getElem? hr
      have cA1 := Lib.hid (cAz.out r hm)
      have cA2 := Lib.hid (cAx.out r hm)
      obtain ⟨b, o, rfl, hbl, q0, q1, q2, q3, q4, q5, q6, q7, q8, q9, q10⟩ := (HR.out.below hb).get k r hr
      obtain ⟨rn, rf, rt, rm, rk, rw_, rd, rs, rb, sv, lt⟩ := r
      simp only at cA1 cA2 q0 q1 q2 q3 q4 q5 q6 q7 q8 q9 q10
      clear hm hr
      generalize ab21 O (P17.sv D) sv = AS at *
      have hb8 := (hb.alloc hb.size (.cells #[.string rn, .int .i64 rf, .int .i64 rt, .int .i64 rm, .int .i64 rk, .int .i64 rw_, .int .i64 rd, .int .i64 rs, .int .i64 rb, .int .i64 sv, .string lt] 38)).alloc (hb.alloc hb.size (.cells #[.string rn, .int .i64 rf, .int .i64 rt, .int .i64 rm, .int .i64 rk, .int .i64 rw_, .int .i64 rd, .int .i64 rs, .int .i64 rb, .int .i64 sv, .string lt] 38)).size (.cells #[.int .i64 sv, .string lt] 42)
      have hF8 := (hF.alloc (.cells #[.string rn, .int .i64 rf, .int .i64 rt, .int .i64 rm, .int .i64 rk, .int .i64 rw_, .int .i64 rd, .int .i64 rs, .int .i64 rb, .int .i64 sv, .string lt] 38)).alloc (.cells #[.int .i64 sv, .string lt] 42)
      have hS8 := Blk.newAt (wr.alloc (.cells #[.string rn, .int .i64 rf, .int .i64 rt, .int .i64 rm, .int .i64 rk, .int .i64 rw_, .int .i64 rd, .int .i64 rs, .int .i64 rb, .int .i64 sv, .string lt] 38)) (wr.heap.size + 1) (by simp) 42 #[.int .i64 sv, .string lt]
      have x0 := (hF8.cell 0).trans rfl
      clear hF hb hbl
      go_wp2_with fail
      refine (cA1.out _ hb8).mono ?_
      rintro e W9 ⟨rfl, hc⟩
      have hb9 := hb8.trans (hc.mono hb8.size)
      have hF9 := hF8.below hc hF8.lt
      have hS9 := hS8.below hc hS8.lt
      clear hb8 hF8 hS8 hc x0 cA1 q0 q1 q2 q3 q4 q5 q6 q7 q8 q9 q10
      have x0 := (hF9.cell 0).trans rfl
      have s0 := (hS9.cell 0).trans rfl
      have s1 := (hS9.cell 1).trans rfl
      go_wp2_with fail
      refine (cA2.out _ hb9).mono ?_
      rintro e W10 ⟨rfl, hc⟩
      have hb10 := hb9.trans (hc.mono hb9.size)
      have hF10 := hF9.below hc hF9.lt
      clear hb9 hF9 hS9 hc x0 s0 s1 cA2
      go_wp2_with fail
      go_roundw
      case rel => exact ⟨k + 1, by omega, by go_num, hF10, hb10⟩
      case measure => simp [intOf]; omega
    · obtain rfl : k = NR := by omega
      have z0 := (hF.cell 0).trans rfl
      have fz := hF.frozen 0
      have hFs : Blk (wr.setCell ⟨G2, 0, none⟩ (.int .i64 (O + (1 + M) * 900))) G2 33 #[.int .i64 (O + (1 + M) * 900), .int .i64 2, .int .i64 0, .string ⟨#[82]⟩, .string XS, .bool false, .int .i64 0, .int .i64 0, .int .i64 0, .int .i64 0, .int .i64 0, .int .i64 0, .int .i64 0] := hF.set_ 0 _
      have hbs := hb.setCell (p := ⟨G2, 0, none⟩) HG2.out (.int .i64 (O + (1 + M) * 900))
      have HS := Lib.hid (And.intro hFs hbs)
      clear hF hb hFs hbs
      have wu : IntKind.u8.wrap (1 + M) = 1 + M := IntWalk.u8_in _ (by omega)
      go_upto_region 20 with fail
      obtain ⟨hFs, hbs⟩ := HS.out
      clear HS z0 fz
      generalize wr.setCell ⟨G2, 0, none⟩ (.int .i64 (O + (1 + M) * 900)) = W11 at *
      have z0 := (hFs.cell 0).trans rfl
      have z1 := (hFs.cell 1).trans rfl
      have z2 := (hFs.cell 2).trans rfl
      have z3 := (hFs.cell 3).trans rfl
      have z4 := (hFs.cell 4).trans rfl
      have z5 := (hFs.cell 5).trans rfl
      have z6 := (hFs.cell 6).trans rfl
      have z7 := (hFs.cell 7).trans rfl
      have z8 := (hFs.cell 8).trans rfl
      have z9 := (hFs.cell 9).trans rfl
      have z10 := (hFs.cell 10).trans rfl
      have z11 := (hFs.cell 11).trans rfl
      have z12 := (hFs.cell 12).trans rfl
      clear hFs
      go_wp2_with fail
      refine (cW2.out _ hbs).mono ?_
      rintro e W12 ⟨rfl, hc⟩
      have hb12 := hb1.trans ((hbs.trans (hc.mono hbs.size)).mono hb1.size)
      clear hbs hc cW2 z0 z1 z2 z3 z4 z5 z6 z7 z8 z9 z10 z11 z12
      have hv12 := HV.out.below hb12
      go_wp2_with fail
      refine (works21_any _ hv12).mono ?_
      rintro e W13 ⟨rfl, hc⟩
      have hb13 := hb12.trans (hc.mono hb12.size)
      clear hb12 hv12 hc
      go_wp2_with fail
      go_ret
      exact ⟨rfl, hb13⟩
end Go.Proofs.YtmhciidliicheaaDoor
