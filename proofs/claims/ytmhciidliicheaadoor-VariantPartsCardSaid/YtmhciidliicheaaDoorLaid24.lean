/- What the rows' list of variables gives the walks of chapter 24. -/
import Derived.Test.YtmhciidliicheaaDoorLaid21
import Derived.Test.YtmhciidliicheaaDoorVar24a
import Derived.OpenShut
import Derived.ChangeArms
namespace Go.Proofs.YtmhciidliicheaaDoor
open Go.RowKit
set_option linter.unusedVariables false

theorem gVar : Tryd.prog.globalNamed "analemma/variant.variants" = some 0 := by kernel_rfl
theorem tVar : (Tryd.prog.globals[0]?).map (·.type) = some 146 := by kernel_rfl
theorem cVars : Tryd.prog.cellsOf 146 = 20 := by kernel_rfl
theorem cVar : Tryd.prog.cellsOf 136 = 5 := by kernel_rfl
set_option maxRecDepth 100000 in
theorem var_cells {H : Type} {enc : TypeId × Value → H} {w : World} {base : Nat} {sp : Nat → Bool} {held : Bool} {fuel : Nat} {cs : List Value} {s : List UInt8} {b1 b2 b3 b4 : Bool} {p : List MemPlace} (hl : cs.length = 5)
    (h : DataW.trod enc Tryd.prog w base sp held fuel 136 cs = some (.agg [.lit (.string s), .lit (.bool b1), .lit (.bool b2), .lit (.bool b3), .lit (.bool b4)], p)) : cs = [.string (str s), .bool b1, .bool b2, .bool b3, .bool b4] := by
  match cs, hl with
  | [c0, c1, c2, c3, c4], _ =>
    obtain ⟨xs, n, _, hx, _, hxl, hg⟩ := DataW.trod_struct Tryd.underlying136 h
    have h0 := hg 0 _ rfl
    have h1 := hg 1 _ rfl
    have h2 := hg 2 _ rfl
    have h3 := hg 3 _ rfl
    have h4 := hg 4 _ rfl
    match xs, hxl with
    | [x0, x1, x2, x3, x4], _ =>
      obtain ⟨s0, e0, q0, _⟩ := DataW.trod_string Tryd.underlying9 (h0.trans rfl)
      obtain ⟨n1, e1, q1⟩ := DataW.trod_bool Tryd.underlying4 (h1.trans rfl)
      obtain ⟨n2, e2, q2⟩ := DataW.trod_bool Tryd.underlying4 (h2.trans rfl)
      obtain ⟨n3, e3, q3⟩ := DataW.trod_bool Tryd.underlying4 (h3.trans rfl)
      obtain ⟨n4, e4, q4⟩ := DataW.trod_bool Tryd.underlying4 (h4.trans rfl)
      subst q0 q1 q2 q3 q4
      have hx1 : DataW.agg [.lit (.string s), .lit (.bool b1), .lit (.bool b2), .lit (.bool b3), .lit (.bool b4)] = (DataW.agg [.lit (.string s0.data.toList), .lit (.bool n1), .lit (.bool n2), .lit (.bool n3), .lit (.bool n4)] : DataW H) := congrArg Prod.fst hx
      have hx2 := DataW.agg.inj hx1
      simp only [List.cons.injEq, DataW.lit.injEq, Lit.string.injEq, Lit.bool.injEq, and_true] at hx2
      obtain ⟨r0, r1, r2, r3, r4⟩ := hx2
      have cB : Tryd.prog.cellsOf 4 = 1 := by kernel_rfl
      have cS : Tryd.prog.cellsOf 9 = 1 := by kernel_rfl
      have f0 : List.take (Tryd.prog.cellsOf 9) [c0, c1, c2, c3, c4] = [.string s0] := e0
      have f1 : List.take (Tryd.prog.cellsOf 4) [c1, c2, c3, c4] = [.bool n1] := e1
      have f2 : List.take (Tryd.prog.cellsOf 4) [c2, c3, c4] = [.bool n2] := e2
      have f3 : List.take (Tryd.prog.cellsOf 4) [c3, c4] = [.bool n3] := e3
      have f4 : List.take (Tryd.prog.cellsOf 4) [c4] = [.bool n4] := e4
      rw [cS] at f0
      rw [cB] at f1 f2 f3 f4
      rw [(List.cons.inj f0).1, (List.cons.inj f1).1, (List.cons.inj f2).1, (List.cons.inj f3).1, (List.cons.inj f4).1, r0, r1, r2, r3, r4]
      rfl
theorem drop5 {α : Type} (l : List α) (a : Nat) : l.drop a = (l.drop a).take 5 ++ l.drop (a + 5) := by rw [← List.drop_drop, List.take_append_drop]
theorem var_of {W : World} {rest : List (String × DataW Unit)} (h : laidMet Tryd.prog (("analemma/variant.variants", Rows.laid_analemma_variant_variants) :: rest) W) : Rd W 0 P24.tab := by
  obtain ⟨ps, ⟨g', t', cs, fuel, p, q, hg', ht', hvar, hd, _, _⟩, _⟩ := h
  obtain rfl := Option.some.inj (gVar.symm.trans hg')
  obtain rfl := Option.some.inj (tVar.symm.trans ht')
  obtain ⟨xs, m, _, hx, hcl, hxl, hel⟩ := DataW.trod_array Tryd.underlying146 hd
  rw [cVars] at hcl
  rw [cVar] at hel
  obtain ⟨cl⟩ := cs
  simp only at hcl hel
  have hcs : cl = P24.tab := by
    match xs, hxl with
    | [x0, x1, x2, x3], _ =>
      simp only [Rows.laid_analemma_variant_variants, List.map_cons, List.map_nil, Prod.mk.injEq, DataW.agg.injEq, List.cons.injEq, and_true] at hx
      obtain ⟨⟨r0, r1, r2, r3⟩, _⟩ := hx
      have k0 := hel 0 (by decide)
      have k1 := hel 1 (by decide)
      have k2 := hel 2 (by decide)
      have k3 := hel 3 (by decide)
      obtain ⟨d0, p0⟩ := x0
      obtain ⟨d1, p1⟩ := x1
      obtain ⟨d2, p2⟩ := x2
      obtain ⟨d3, p3⟩ := x3
      simp only at r0 r1 r2 r3
      subst r0 r1 r2 r3
      have l0 := var_cells (by rw [List.length_take, List.length_drop]; omega) k0
      have l1 := var_cells (by rw [List.length_take, List.length_drop]; omega) k1
      have l2 := var_cells (by rw [List.length_take, List.length_drop]; omega) k2
      have l3 := var_cells (by rw [List.length_take, List.length_drop]; omega) k3
      have e0 := drop5 cl 0
      have e1 := drop5 cl 5
      have e2 := drop5 cl 10
      have e3 := drop5 cl 15
      rw [List.drop_of_length_le (show cl.length ≤ 15 + 5 by omega)] at e3
      rw [show (cl.drop 15).take 5 = _ from l3] at e3
      rw [show (cl.drop 10).take 5 = _ from l2, show 10 + 5 = 15 from rfl, e3] at e2
      rw [show (cl.drop 5).take 5 = _ from l1, show 5 + 5 = 10 from rfl, e2] at e1
      rw [show (cl.drop 0).take 5 = _ from l0, show 0 + 5 = 5 from rfl, e1, List.drop_zero] at e0
      rw [e0]; rfl
  unfold World.var? at hvar
  simp only [gVar, Option.bind_some] at hvar
  split at hvar
  · rename_i cs' t fz hh
    refine ⟨cs', t, fz, hh, fun j _ => ?_⟩
    have e2 := Option.some.inj hvar
    rw [e2, ← hcs]
    exact List.getElem?_toArray ..
  · cases hvar
theorem vars24_of_laid {W : World} {a b c d : String × DataW Unit} {rest : List (String × DataW Unit)} (h : laidMet Tryd.prog (a :: b :: c :: d :: ("strconv.ErrSyntax", Rows.laid_strconv_ErrSyntax) :: ("analemma/variant.variants", Rows.laid_analemma_variant_variants) :: rest) W) (hsh : W.ShapedOpen Tryd.prog) : Vars24 W := by
  exact ⟨vars21_of h.tail.tail.tail.tail hsh, var_of h.tail.tail.tail.tail.tail⟩
end Go.Proofs.YtmhciidliicheaaDoor
