/- Texts of one proof, one behind the other: Open30; OpenB; Laid21; Shape; Upto. -/
import Derived.Test.YtlideagcmhlkeaaDoorR8
import Derived.OpenShut
import Derived.Test.YtlideagcmhlkeaaDoorRows
import Derived.Lib.LaidTab
import Derived.Stop.LaidErr
import Derived.Handed
import Derived.HandedShaped
import Derived.LaidMore
import Derived.LaidLaws
import Derived.Deep.DeepHandedRow
import Derived.Stop.Joined

/- What a source by value that comes in reads as (for the cards of chapter 30). -/
namespace Go.Proofs.YtlideagcmhlkeaaDoor
open Go.RowKit Go.ChangeShapes Go.WideShapes
set_option linter.unusedVariables false

section
variable {H : Type} {enc : TypeId × Value → H} {w : World} {base : Nat} {sp : Nat → Bool} {held : Bool}
/-- a link's cells -/
theorem open_link {fuel : Nat} {cs : List Value} {x : DataW H × List MemPlace} (hlen : cs.length = 2) (h : DataW.trod enc Tryd.prog w base sp held fuel 94 cs = some x) : ∃ k : KV, cs = k.cells ∧ True := by
  match cs, hlen with
  | [c0, c1], _ =>
    obtain ⟨s0, e0, _⟩ := leaf_str Tryd.underlying94 h 0 9 0 (by kernel_rfl) Tryd.underlying9
    obtain ⟨s1, e1, _⟩ := leaf_str Tryd.underlying94 h 1 9 1 (by kernel_rfl) Tryd.underlying9
    simp only [List.drop_succ_cons, List.drop_zero, List.take_succ_cons, List.take_zero, List.cons.injEq, and_true] at e0 e1
    subst e0 e1
    exact ⟨⟨s0, s1⟩, rfl, trivial⟩
/-- a string's cell -/
theorem open_word {fuel : Nat} {cs : List Value} {x : DataW H × List MemPlace} (hlen : cs.length = 1) (h : DataW.trod enc Tryd.prog w base sp held fuel 9 cs = some x) : ∃ b : ByteArray, cs = [Value.string b] ∧ True := by
  obtain ⟨z, e, _⟩ := DataW.trod_string Tryd.underlying9 h
  exact ⟨z, e, trivial⟩
end
end Go.Proofs.YtlideagcmhlkeaaDoor

/- What a source by value that comes in reads as, where the bulk of what comes in is bounded (for the second form of TurnSources). -/
namespace Go.Proofs.YtlideagcmhlkeaaDoor
open Go.RowKit Go.ChangeShapes Go.WideShapes
set_option linter.unusedVariables false

theorem bulk_part {H : Type} {d : DataW H} {l : List (DataW H)} (h : d ∈ l) : Rows.uptoBulk d ≤ Rows.uptoBulkAll l := by
  induction l with
  | nil => cases h
  | cons x r ih =>
    simp only [Rows.uptoBulkAll]
    rcases List.mem_cons.1 h with e | e
    · subst e; omega
    · have := ih e; omega
section
variable {H : Type} {enc : TypeId × Value → H} {w : World} {base : Nat} {sp : Nat → Bool} {held : Bool}
/-- a field, with what it holds at most -/
theorem field_ofB {P : Program} {t : TypeId} {fs : Array Field} {fuel : Nat} {cs : List Value} {x : DataW H × List MemPlace} (ht : P.underlying t = some (.struct fs)) (h : DataW.trod enc P w base sp held fuel t cs = some x) (i : Nat) (ty : TypeId) (o s : Nat)
    (hf : (fs[i]?).map (fun f => (f.type, f.offset, P.cellsOf f.type)) = some (ty, o, s)) : ∃ n y, DataW.trod enc P w base sp held n ty ((cs.drop o).take s) = some y ∧ Rows.uptoBulk y.1 ≤ Rows.uptoBulk x.1 := by
  obtain ⟨xs, n, _, hx, _, hl, hg⟩ := DataW.trod_struct ht h
  cases hq : fs[i]? with
  | none => rw [hq] at hf; cases hf
  | some f =>
    rw [hq] at hf
    simp only [Option.map_some, Option.some.injEq, Prod.mk.injEq] at hf
    obtain ⟨rfl, rfl, rfl⟩ := hf
    have hi : i < xs.length := by rw [hl]; exact (Array.getElem?_eq_some_iff.1 hq).1
    refine ⟨n, xs[i], (hg i f hq).trans (List.getElem?_eq_getElem hi), ?_⟩
    have q := bulk_part (d := xs[i].1) (l := xs.map (·.1)) (List.mem_map.2 ⟨xs[i], List.getElem_mem hi, rfl⟩)
    rw [hx]
    simp only [Rows.uptoBulk]
    omega
theorem leaf_strB {P : Program} {t : TypeId} {fs : Array Field} {fuel : Nat} {cs : List Value} {x : DataW H × List MemPlace} (ht : P.underlying t = some (.struct fs)) (h : DataW.trod enc P w base sp held fuel t cs = some x) (i : Nat) (ty : TypeId) (o : Nat)
    (hf : (fs[i]?).map (fun f => (f.type, f.offset, P.cellsOf f.type)) = some (ty, o, 1)) (hk : P.underlying ty = some .string) : ∃ s : ByteArray, (cs.drop o).take 1 = [.string s] ∧ s.size ≤ Rows.uptoBulk x.1 := by
  obtain ⟨n, y, hy, hb⟩ := field_ofB ht h i ty o 1 hf
  obtain ⟨z, e, hx, hw⟩ := DataW.trod_string hk hy
  refine ⟨z, e, Nat.le_trans ?_ hb⟩
  rw [hx]
  simp only [Rows.uptoBulk]
  show z.data.toList.length ≤ _
  omega
/-- a slice that comes in, on the list of its cells, with what they hold at most -/
theorem open_cellsB {P : Program} {α : Type} {t e : TypeId} {m : Nat} {f : α → List Value} {Good : α → Prop} {B : Nat} {fuel : Nat} {cs : List Value} {x : DataW H × List MemPlace} (ht : P.underlying t = some (.slice e)) (hC : P.cellsOf e = m) (h0 : 0 < m)
    (hopen : ∀ (fuel : Nat) (cs : List Value) (x : DataW H × List MemPlace), cs.length = m → DataW.trod enc P w base sp held fuel e cs = some x → Rows.uptoBulk x.1 ≤ B → ∃ r : α, cs = f r ∧ Good r)
    (hf : DataW.trod enc P w base sp held fuel t cs = some x) (hB : Rows.uptoBulk x.1 ≤ B) :
    ∃ (A : Option Addr) (c : Nat) (L : List α), cs = [.slice A L.length c] ∧ L.length ≤ maxLen ∧ CellsIn m f w A L ∧ ∀ r ∈ L, Good r := by
  rcases Go.Deep.open_slice ht hf with ⟨h0', _⟩ | ⟨a, len, cap, m', n, D, Pl, hcs, hb, hl, hm, hmm, hx, hi⟩
  · exact ⟨none, 0, [], h0', Nat.zero_le _, CellsIn.nil _ _, fun r hr => by simp at hr⟩
  · have hlm : len ≤ m' := by rw [hmm]; split <;> omega
    have key : ∀ i, i < len → ∃ r : α, Good r ∧ (f r).length = m ∧ ∀ j u, (f r)[j]? = some u → w.cell? ((a.add (i * m)).add j) = some u := by
      intro i hil
      obtain ⟨cs', hc, htt⟩ := hi i (by omega)
      rw [hC] at hc
      obtain ⟨_, hcl, hat⟩ := World.cells?_some hc
      obtain ⟨r, hr, hw⟩ := hopen _ _ _ hcl htt (by
        have q1 := bulk_part (d := D i) (l := (List.range len).map D) (List.mem_map.2 ⟨i, List.mem_range.2 hil, rfl⟩)
        rw [hx] at hB
        simp only [Rows.uptoBulk] at hB
        show Rows.uptoBulk (D i) ≤ B
        omega)
      refine ⟨r, hw, by rw [← hr, hcl], fun j u hu => ?_⟩
      have hj : j < m := by rw [← hcl, hr]; exact (List.getElem?_eq_some_iff.mp hu).1
      rw [hat j hj, hr]; exact hu
    have key2 : ∃ L : List α, L.length = len ∧ ∀ i r, L[i]? = some r → Good r ∧ (f r).length = m ∧ ∀ j u, (f r)[j]? = some u → w.cell? ((a.add (i * m)).add j) = some u := by
      refine ⟨List.ofFn (fun i : Fin len => Classical.choose (key i.1 i.2)), by simp, fun i r hr => ?_⟩
      have hil : i < len := by have := (List.getElem?_eq_some_iff.mp hr).1; simpa using this
      rw [List.getElem?_ofFn, dif_pos hil] at hr
      injection hr with hr
      rw [← hr]
      exact Classical.choose_spec (key i hil)
    obtain ⟨L, hLl, hL⟩ := key2
    refine ⟨some a, cap, L, by rw [hLl]; exact hcs, by rw [hLl]; omega, fun k r hr => ?_, fun r hr => ?_⟩
    · have h00 : 0 < L.length := by have := (List.getElem?_eq_some_iff.mp hr).1; omega
      have hs : a.spot = none := by
        obtain ⟨_, hl0, q⟩ := hL 0 _ (List.getElem?_eq_getElem h00)
        have q0 := q 0 _ (List.getElem?_eq_getElem (by omega))
        rw [Nat.zero_mul] at q0
        exact World.cell?_spot (by simpa [Addr.add] using q0)
      obtain ⟨_, hl1, hk⟩ := hL k r hr
      obtain ⟨b, o, s⟩ := a
      simp only at hs
      subst hs
      refine ⟨b, o, rfl, ?_, fun j u hu => ?_⟩
      · have q := hk 0 _ (List.getElem?_eq_getElem (by omega))
        rw [add_plain] at q
        unfold World.cell? at q
        rcases Nat.lt_or_ge b w.heap.size with q' | q'
        · exact q'
        · rw [Array.getElem?_eq_none q'] at q; cases q
      · have := hk j u hu
        rwa [add_plain] at this
    · obtain ⟨k, hk⟩ := List.mem_iff_getElem?.1 hr
      exact (hL k r hk).1
/-- what is asked of an era -/
def OkB (B : Nat) (e : EV) : Prop := (-9223372036854775808 ≤ e.off ∧ e.off ≤ 9223372036854775807) ∧ (-9223372036854775808 ≤ e.save ∧ e.save ≤ 9223372036854775807) ∧ e.fmt.size ≤ B
theorem open_eravB {B fuel : Nat} {cs : List Value} {x : DataW H × List MemPlace} (hlen : cs.length = 13) (h : DataW.trod enc Tryd.prog w base sp held fuel 47 cs = some x) (hB : Rows.uptoBulk x.1 ≤ B) : ∃ e : EV, cs = e.cells ∧ OkB B e := by
  obtain ⟨n0, n1, n2, s3, s4, b5, n6, n7, n8, n9, n10, n11, n12, hcs, w0, _, w2, _, _⟩ := open_era hlen h
  obtain ⟨s, es, hs⟩ := leaf_strB Tryd.underlying47 h 4 9 4 (by kernel_rfl) Tryd.underlying9
  subst hcs
  have e : s4 = s := by simpa using es
  subst e
  exact ⟨⟨n0, n1, n2, s3, s4, b5, n6, n7, n8, n9, n10, n11, n12⟩, rfl, bounds_i64 w0, bounds_i64 w2, Nat.le_trans hs hB⟩
/-- a zone's cells, with its eras -/
theorem open_zoneB {B fuel : Nat} {cs : List Value} {x : DataW H × List MemPlace} (hlen : cs.length = 2) (h : DataW.trod enc Tryd.prog w base sp held fuel 39 cs = some x) (hB : Rows.uptoBulk x.1 ≤ B) :
    ∃ z : ZV, cs = z.cells ∧ (z.eras.length ≤ maxLen ∧ CellsIn 13 EV.cells w z.A z.eras ∧ ∀ e ∈ z.eras, OkB B e) := by
  match cs, hlen with
  | [c0, c1], _ =>
    obtain ⟨s0, e0, _⟩ := leaf_str Tryd.underlying39 h 0 9 0 (by kernel_rfl) Tryd.underlying9
    obtain ⟨m, y, hd, hb⟩ := field_ofB Tryd.underlying39 h 1 37 1 1 (by kernel_rfl)
    obtain ⟨A, c, L, e1, hl, hc, hf⟩ := open_cellsB (m := 13) (f := EV.cells) (Good := OkB B) Tryd.underlying37 (by kernel_rfl) (by decide) (fun fuel cs x hl hx hq => open_eravB hl hx hq) hd (Nat.le_trans hb hB)
    simp only [List.drop_succ_cons, List.drop_zero, List.take_succ_cons, List.take_zero, List.cons.injEq, and_true] at e0 e1
    subst e0 e1
    exact ⟨⟨s0, A, c, L⟩, rfl, hl, hc, hf⟩
/-- a source by value -/
theorem open_sourceB {B fuel : Nat} {cs : List Value} {x : DataW H × List MemPlace} (hlen : cs.length = 4) (h : DataW.trod enc Tryd.prog w base sp held fuel 32 cs = some x) (hB : Rows.uptoBulk x.1 ≤ B) :
    ∃ s : SV, cs = s.agg.toList ∧ SrcIn w s ∧ Nums30 s ∧ ∀ z ∈ s.zones, ∀ e ∈ z.eras, e.fmt.size ≤ B := by
  match cs, hlen with
  | [c0, c1, c2, c3], _ =>
    obtain ⟨m0, y0, hd0⟩ := field_of Tryd.underlying32 h 0 27 0 1 (by kernel_rfl)
    obtain ⟨m1, y1, hd1, hb1⟩ := field_ofB Tryd.underlying32 h 1 28 1 1 (by kernel_rfl)
    obtain ⟨m2, y2, hd2⟩ := field_of Tryd.underlying32 h 2 29 2 1 (by kernel_rfl)
    obtain ⟨m3, y3, hd3⟩ := field_of Tryd.underlying32 h 3 30 3 1 (by kernel_rfl)
    obtain ⟨A0, k0, L0, e0, l0, i0, g0⟩ := open_cells (m := 11) (f := RV.cells) (Good := fun r => (Lit.int .i64 r.save).wf = true) Tryd.underlying27 (by kernel_rfl) (by decide) (fun fuel cs x hl hx => open_rule hl hx) hd0
    obtain ⟨A1, k1, L1, e1, l1, i1, g1⟩ := open_cellsB (m := 2) (f := ZV.cells) (Good := fun z => z.eras.length ≤ maxLen ∧ CellsIn 13 EV.cells w z.A z.eras ∧ ∀ e ∈ z.eras, OkB B e) Tryd.underlying28 (by kernel_rfl) (by decide) (fun fuel cs x hl hx hq => open_zoneB hl hx hq) hd1 (Nat.le_trans hb1 hB)
    obtain ⟨A2, k2, L2, e2, l2, i2, _⟩ := open_cells (m := 2) (f := KV.cells) (Good := fun _ => True) Tryd.underlying29 (by kernel_rfl) (by decide) (fun fuel cs x hl hx => open_link hl hx) hd2
    obtain ⟨A3, k3, L3, e3, l3, i3, _⟩ := open_cells (m := 1) (f := fun b : ByteArray => [Value.string b]) (Good := fun _ => True) Tryd.underlying30 (by kernel_rfl) (by decide) (fun fuel cs x hl hx => open_word hl hx) hd3
    simp only [List.drop_succ_cons, List.drop_zero, List.take_succ_cons, List.take_zero, List.cons.injEq, and_true] at e0 e1 e2 e3
    subst e0 e1 e2 e3
    exact ⟨⟨A0, k0, L0, A1, k1, L1, A2, k2, L2, A3, k3, L3⟩, rfl, ⟨i0, i1, i2, i3, fun z hz => (g1 z hz).2.1⟩, ⟨⟨l0, l1, l2, l3, fun z hz => (g1 z hz).1⟩, fun z hz e he => ⟨((g1 z hz).2.2 e he).1, ((g1 z hz).2.2 e he).2.1⟩, fun y hy => by
      obtain ⟨r, hr, rfl⟩ := List.mem_map.1 hy
      exact bounds_i64 (g0 r hr)⟩, fun z hz e he => ((g1 z hz).2.2 e he).2.2⟩
end
end Go.Proofs.YtlideagcmhlkeaaDoor

/- What the rows' list of variables, and the world's shape, give the walks of chapters 21 and 24. -/
namespace Go.Proofs.YtlideagcmhlkeaaDoor
open Go.RowKit
set_option linter.unusedVariables false

theorem tSyn : (Tryd.prog.globals[3]?).map (·.type) = some 161 := by kernel_rfl
theorem cErr : Tryd.prog.cellsOf 219 = 1 := by kernel_rfl
theorem cStr : Tryd.prog.cellsOf 9 = 1 := by kernel_rfl
theorem starErr : "*" ++ "errors.errorString" = "*errors.errorString" := by decide
theorem rowErr (u : TypeId) (h : Tryd.prog.typeName? 3 u = some "*errors.errorString") : u = 217 := by
  exact typeName_ptr_named (nm := "errors.errorString") (by rw [starErr]; kernel_rfl) (by kernel_rfl) (by decide) u (by rw [starErr]; exact h)
theorem vars21_of {W : World} {rest : List (String × DataW Unit)} (h4 : laidMet Tryd.prog (("strconv.ErrSyntax", Rows.laid_strconv_ErrSyntax) :: rest) W) (hsh : W.ShapedOpen Tryd.prog) : Vars21 W := by
  obtain ⟨a, s, hs, _, _, _⟩ := laid_sentinel h4 gSyn tSyn Tryd.underlying161 rowErr Tryd.underlying217 Tryd.underlying219 rfl rfl Tryd.underlying9 cErr cStr
  have lt : ∀ {g : Nat} {n : String} {cs : Array Value}, Tryd.prog.globalNamed n = some g → W.var? Tryd.prog n = some cs → g < W.heap.size := by
    intro g n cs hg hv
    unfold World.var? at hv
    simp only [hg, Option.bind_some] at hv
    rcases Nat.lt_or_ge g W.heap.size with q | q
    · exact q
    · rw [Array.getElem?_eq_none q] at hv; cases hv
  have hm := Tryd.laysM145.s1_3 W hsh
  have hlt : 1 < W.heap.size := by
    obtain ⟨m, hm⟩ := hm
    rcases Nat.lt_or_ge 1 W.heap.size with q | q
    · exact q
    · exfalso
      have hm' : W.cell? ⟨1, 0, none⟩ = some (.int .i64 m) := hm
      unfold World.cell? at hm'
      rw [Array.getElem?_eq_none q] at hm'
      cases hm'
  exact ⟨⟨⟨_, _, hs⟩, lt gSyn hs⟩, hm, hlt⟩
/-- four other variables stand ahead of it in the row's list -/
theorem vars21_of_laid {W : World} {a b c d : String × DataW Unit} {rest : List (String × DataW Unit)} (h : laidMet Tryd.prog (a :: b :: c :: d :: ("strconv.ErrSyntax", Rows.laid_strconv_ErrSyntax) :: rest) W) (hsh : W.ShapedOpen Tryd.prog) : Vars21 W := by
  exact vars21_of h.tail.tail.tail.tail hsh
end Go.Proofs.YtlideagcmhlkeaaDoor

/- The wrap of a law's row whose walk asks for the world's shape beside the listed variables. No function of the program. -/
namespace Go.Proofs.YtlideagcmhlkeaaDoor
open Go
section
variable {H : Type} {enc : TypeId × Value → H}
end
end Go.Proofs.YtlideagcmhlkeaaDoor

/- The witness of a law's second form, at a world that bears the listed variables. No function of the program. -/
namespace Go.Proofs.YtlideagcmhlkeaaDoor
open Go
theorem witness_row_shaped {H : Type} {enc : TypeId × Value → H} {C : Checked} {os : Os} {f : FuncId} {fn : Func} {s : OpenSpec} {conds : List PathCond} {apart : Bool} {laid : List (String × DataW Unit)} (modest : Bool) (w0 : World) (args : Array Value) (hos : w0.os = os)
    (hsh : (w0.forCall (fun _ _ => 0) ⟨#[], args, []⟩).Shaped C.prog)
    (hok : Input.okWideB C.prog (w0.forCall (fun _ _ => 0) ⟨#[], args, []⟩) f ⟨#[], args, []⟩ = true)
    (hrow : s.preRow enc C.prog fn conds apart laid (w0.forCall (fun _ _ => 0) ⟨#[], args, []⟩).memory args) :
    ∃ (w : World) (tape : Tape) (i : Input), w.os = os ∧ (w.forCall tape i).Shaped C.prog ∧ i.vars = [] ∧ Input.okWide C.prog (w.forCall tape i) .any w.heap.size f i ∧
      s.preRow enc C.prog fn conds apart laid (w.forCall tape i).memory i.args ∧ ({ modest := modest } : Assume).holds C.prog (lone (Frame.enter C.prog f i.args .normal) [] (w.forCall tape i)) :=
  ⟨w0, fun _ _ => 0, ⟨#[], args, []⟩, hos, hsh, (Input.okWide_of_okWideB (base := 0) hok).1, (Input.okWide_of_okWideB hok).2, hrow, by
    simp only [Assume.holds]
    exact ⟨by simp, by simp, fun _ => Modest.zero, by simp, by simp⟩⟩
end Go.Proofs.YtlideagcmhlkeaaDoor
