/- What the rows' list of variables gives the walks of chapter 32. -/
import Derived.Test.YtggdfgdnpicepaaDoorRows
import Derived.Test.YtggdfgdnpicepaaDoorRep32c
import Derived.Lib.LaidTab
import Derived.Stop.LaidErr
import Derived.OpenShut
import Derived.ChangeArms
namespace Go.Proofs.YtggdfgdnpicepaaDoor
open Go.RowKit
set_option linter.unusedVariables false

theorem tPow : (Tryd.prog.globals[6]?).map (·.type) = some 153 := by kernel_rfl
theorem cPow : Tryd.prog.cellsOf 153 = 20 := by kernel_rfl
theorem cU64 : Tryd.prog.cellsOf 138 = 1 := by kernel_rfl
theorem gWords : Tryd.prog.globalNamed "analemma/report.words" = some 0 := by kernel_rfl
theorem tWords : (Tryd.prog.globals[0]?).map (·.type) = some 105 := by kernel_rfl
theorem cWords : Tryd.prog.cellsOf 105 = 10 := by kernel_rfl
theorem cWord : Tryd.prog.cellsOf 104 = 2 := by kernel_rfl
set_option maxRecDepth 100000 in
theorem rec_cells {H : Type} {enc : TypeId × Value → H} {w : World} {base : Nat} {sp : Nat → Bool} {held : Bool} {fuel : Nat} {cs : List Value} {b : Int} {s : List UInt8} {p : List MemPlace} (hl : cs.length = 2)
    (h : DataW.trod enc Tryd.prog w base sp held fuel 104 cs = some (.agg [.lit (.int .i64 b), .lit (.string s)], p)) : cs = [.int .i64 b, .string (str s)] := by
  match cs, hl with
  | [c0, c1], _ =>
    obtain ⟨xs, n, _, hx, _, hxl, hg⟩ := DataW.trod_struct Tryd.underlying104 h
    have h0 := hg 0 _ rfl
    have h1 := hg 1 _ rfl
    match xs, hxl with
    | [x0, x1], _ =>
      obtain ⟨n0, e0, q0, _⟩ := DataW.trod_int Tryd.underlying3 (h0.trans rfl)
      obtain ⟨s1, e1, q1, _⟩ := DataW.trod_string Tryd.underlying9 (h1.trans rfl)
      subst q0 q1
      have hx1 : DataW.agg [.lit (.int .i64 b), .lit (.string s)] = (DataW.agg [.lit (.int .i64 n0), .lit (.string s1.data.toList)] : DataW H) := congrArg Prod.fst hx
      have hx2 := DataW.agg.inj hx1
      have r0 := (Lit.int.inj (DataW.lit.inj (List.cons.inj hx2).1)).2
      have r1 := Lit.string.inj (DataW.lit.inj (List.cons.inj (List.cons.inj hx2).2).1)
      have cI : Tryd.prog.cellsOf 3 = 1 := by kernel_rfl
      have cS : Tryd.prog.cellsOf 9 = 1 := by kernel_rfl
      have f0 : List.take (Tryd.prog.cellsOf 3) [c0, c1] = [.int .i64 n0] := e0
      have f1 : List.take (Tryd.prog.cellsOf 9) [c1] = [.string s1] := e1
      rw [cI] at f0
      rw [cS] at f1
      have g0 := (List.cons.inj f0).1
      have g1 := (List.cons.inj f1).1
      rw [g0, g1, r0, r1]
      rfl
theorem words_of {W : World} {rest : List (String × DataW Unit)} (h : laidMet Tryd.prog (("analemma/report.words", Rows.laid_analemma_report_words) :: rest) W) : (∀ j u, (#[.int .i64 1, .string ⟨#[115, 97, 118, 101]⟩, .int .i64 2, .string ⟨#[97, 116]⟩, .int .i64 4, .string ⟨#[111, 102, 102]⟩, .int .i64 8, .string ⟨#[102, 111, 114, 109, 97, 116]⟩, .int .i64 16, .string ⟨#[117, 110, 116, 105, 108]⟩] : Array Value)[j]? = some u → W.cell? ⟨0, j, none⟩ = some u) ∧ 0 < W.heap.size := by
  obtain ⟨ps, ⟨g', t', cs, fuel, p, q, hg', ht', hvar, hd, _, _⟩, _⟩ := h
  obtain rfl := Option.some.inj (gWords.symm.trans hg')
  obtain rfl := Option.some.inj (tWords.symm.trans ht')
  obtain ⟨xs, m, _, hx, hcl, hxl, hel⟩ := DataW.trod_array Tryd.underlying105 hd
  rw [cWords] at hcl
  rw [cWord] at hel
  obtain ⟨cl⟩ := cs
  simp only at hcl hel
  have hcs : cl = (#[.int .i64 1, .string ⟨#[115, 97, 118, 101]⟩, .int .i64 2, .string ⟨#[97, 116]⟩, .int .i64 4, .string ⟨#[111, 102, 102]⟩, .int .i64 8, .string ⟨#[102, 111, 114, 109, 97, 116]⟩, .int .i64 16, .string ⟨#[117, 110, 116, 105, 108]⟩] : Array Value).toList := by
    match cl, hcl, xs, hxl with
    | [c0, c1, c2, c3, c4, c5, c6, c7, c8, c9], _, [x0, x1, x2, x3, x4], _ =>
      simp only [Rows.laid_analemma_report_words, List.map_cons, List.map_nil, Prod.mk.injEq, DataW.agg.injEq, List.cons.injEq, and_true] at hx
      obtain ⟨⟨r0, r1, r2, r3, r4⟩, _⟩ := hx
      have k0 := hel 0 (by decide)
      have k1 := hel 1 (by decide)
      have k2 := hel 2 (by decide)
      have k3 := hel 3 (by decide)
      have k4 := hel 4 (by decide)
      obtain ⟨d0, p0⟩ := x0
      obtain ⟨d1, p1⟩ := x1
      obtain ⟨d2, p2⟩ := x2
      obtain ⟨d3, p3⟩ := x3
      obtain ⟨d4, p4⟩ := x4
      simp only at r0 r1 r2 r3 r4
      subst r0 r1 r2 r3 r4
      have j0 := rec_cells rfl (k0.trans rfl)
      have j1 := rec_cells rfl (k1.trans rfl)
      have j2 := rec_cells rfl (k2.trans rfl)
      have j3 := rec_cells rfl (k3.trans rfl)
      have j4 := rec_cells rfl (k4.trans rfl)
      simp only [Nat.zero_mul, Nat.one_mul, Nat.reduceMul, List.drop_zero, List.drop_succ_cons, List.take_succ_cons, List.take_zero, List.cons.injEq, and_true] at j0 j1 j2 j3 j4
      obtain ⟨rfl, rfl⟩ := j0
      obtain ⟨rfl, rfl⟩ := j1
      obtain ⟨rfl, rfl⟩ := j2
      obtain ⟨rfl, rfl⟩ := j3
      obtain ⟨rfl, rfl⟩ := j4
      rfl
  subst hcs
  have hlt : 0 < W.heap.size := by
    unfold World.var? at hvar
    simp only [gWords, Option.bind_some] at hvar
    rcases Nat.lt_or_ge 0 W.heap.size with q | q
    · exact q
    · rw [Array.getElem?_eq_none q] at hvar; cases hvar
  refine ⟨fun j u hu => ?_, hlt⟩
  have hj : j < 10 := (Array.getElem?_eq_some_iff.1 hu).1
  have := World.var?_cell gWords hvar j
  rw [this]
  simpa using hu
theorem vars_of_laid {W : World} (h : laidMetH Tryd.prog Rows.reportTextsRow.laid W) : Vars W := by
  have h0 : laidMet Tryd.prog Rows.reportTextsRow.laid W := h
  have h1 := h0.tail
  have h2 := h1.tail
  have hpow := Lib.tabIs_of_head (k := .u64) (zs := Lib.pow10Tab) gPow tPow Tryd.underlying153 Tryd.underlying138 cU64 cPow h2
  have hw := words_of h2.tail
  refine ⟨hpow, hw.1, ?_, hw.2⟩
  unfold Lib.TabIs World.var? at hpow
  simp only [gPow, Option.bind_some] at hpow
  rcases Nat.lt_or_ge 6 W.heap.size with q | q
  · exact q
  · rw [Array.getElem?_eq_none q] at hpow; cases hpow
end Go.Proofs.YtggdfgdnpicepaaDoor
