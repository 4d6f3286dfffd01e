/- What an era by value and a slice of rules that come in read as (for the cards of chapter 20 and above). -/
import Derived.Test.YtbajlkpjemandaaDoorRules
import Derived.Deep.Slices
import Derived.Deep.Fields
import Derived.ChangeSame
import Derived.WideShapes
namespace Go.Proofs.YtbajlkpjemandaaDoor
open Go.RowKit Go.ChangeShapes Go.WideShapes
set_option linter.unusedVariables false

section
variable {H : Type} {enc : TypeId × Value → H} {w : World} {base : Nat} {sp : Nat → Bool} {held : Bool}
theorem field_of {P : Program} {t : TypeId} {fs : Array Field} {fuel : Nat} {cs : List Value} {x : DataW H × List MemPlace} (ht : P.underlying t = some (.struct fs)) (h : DataW.trod enc P w base sp held fuel t cs = some x) (i : Nat) (ty : TypeId) (o s : Nat)
    (hf : (fs[i]?).map (fun f => (f.type, f.offset, P.cellsOf f.type)) = some (ty, o, s)) : ∃ n y, DataW.trod enc P w base sp held n ty ((cs.drop o).take s) = some y := by
  obtain ⟨xs, n, _, _, _, hl, hg⟩ := DataW.trod_struct ht h
  cases hq : fs[i]? with
  | none => rw [hq] at hf; cases hf
  | some f =>
    rw [hq] at hf
    simp only [Option.map_some, Option.some.injEq, Prod.mk.injEq] at hf
    obtain ⟨rfl, rfl, rfl⟩ := hf
    have hi : i < xs.length := by rw [hl]; exact (Array.getElem?_eq_some_iff.1 hq).1
    exact ⟨n, xs[i], (hg i f hq).trans (List.getElem?_eq_getElem hi)⟩
theorem leaf_int {P : Program} {t : TypeId} {fs : Array Field} {fuel : Nat} {cs : List Value} {x : DataW H × List MemPlace} (ht : P.underlying t = some (.struct fs)) (h : DataW.trod enc P w base sp held fuel t cs = some x) (i : Nat) (ty : TypeId) (o : Nat) (k : IntKind)
    (hf : (fs[i]?).map (fun f => (f.type, f.offset, P.cellsOf f.type)) = some (ty, o, 1)) (hk : P.underlying ty = some (.int k)) : ∃ n, (cs.drop o).take 1 = [.int k n] ∧ (Lit.int k n).wf = true := by
  obtain ⟨n, y, hy⟩ := field_of ht h i ty o 1 hf
  obtain ⟨z, e, _, hw⟩ := DataW.trod_int hk hy
  exact ⟨z, e, hw⟩
theorem leaf_str {P : Program} {t : TypeId} {fs : Array Field} {fuel : Nat} {cs : List Value} {x : DataW H × List MemPlace} (ht : P.underlying t = some (.struct fs)) (h : DataW.trod enc P w base sp held fuel t cs = some x) (i : Nat) (ty : TypeId) (o : Nat)
    (hf : (fs[i]?).map (fun f => (f.type, f.offset, P.cellsOf f.type)) = some (ty, o, 1)) (hk : P.underlying ty = some .string) : ∃ s : ByteArray, (cs.drop o).take 1 = [.string s] ∧ s.size ≤ maxLen := by
  obtain ⟨n, y, hy⟩ := field_of ht h i ty o 1 hf
  obtain ⟨z, e, _, hw⟩ := DataW.trod_string hk hy
  exact ⟨z, e, hw⟩
theorem leaf_bool {P : Program} {t : TypeId} {fs : Array Field} {fuel : Nat} {cs : List Value} {x : DataW H × List MemPlace} (ht : P.underlying t = some (.struct fs)) (h : DataW.trod enc P w base sp held fuel t cs = some x) (i : Nat) (ty : TypeId) (o : Nat)
    (hf : (fs[i]?).map (fun f => (f.type, f.offset, P.cellsOf f.type)) = some (ty, o, 1)) (hk : P.underlying ty = some .bool) : ∃ b, (cs.drop o).take 1 = [.bool b] := by
  obtain ⟨n, y, hy⟩ := field_of ht h i ty o 1 hf
  obtain ⟨z, e, _⟩ := DataW.trod_bool hk hy
  exact ⟨z, e⟩
/-- a rule's cells -/
theorem open_rule {fuel : Nat} {cs : List Value} {x : DataW H × List MemPlace} (hlen : cs.length = 11) (h : DataW.trod enc Tryd.prog w base sp held fuel 38 cs = some x) : ∃ r : RV, cs = r.cells ∧ (Lit.int .i64 r.save).wf = true := by
  match cs, hlen with
  | [c0, c1, c2, c3, c4, c5, c6, c7, c8, c9, c10], _ =>
    obtain ⟨s0, e0, _⟩ := leaf_str Tryd.underlying38 h 0 9 0 (by kernel_rfl) Tryd.underlying9
    obtain ⟨n1, e1, _⟩ := leaf_int Tryd.underlying38 h 1 3 1 .i64 (by kernel_rfl) Tryd.underlying3
    obtain ⟨n2, e2, _⟩ := leaf_int Tryd.underlying38 h 2 3 2 .i64 (by kernel_rfl) Tryd.underlying3
    obtain ⟨n3, e3, _⟩ := leaf_int Tryd.underlying38 h 3 3 3 .i64 (by kernel_rfl) Tryd.underlying3
    obtain ⟨m, y, hd⟩ := field_of Tryd.underlying38 h 4 27 4 3 (by kernel_rfl)
    obtain ⟨n4, e4, _⟩ := leaf_int Tryd.underlying27 hd 0 3 0 .i64 (by kernel_rfl) Tryd.underlying3
    obtain ⟨n5, e5, _⟩ := leaf_int Tryd.underlying27 hd 1 3 1 .i64 (by kernel_rfl) Tryd.underlying3
    obtain ⟨n6, e6, _⟩ := leaf_int Tryd.underlying27 hd 2 3 2 .i64 (by kernel_rfl) Tryd.underlying3
    obtain ⟨m', y', hc⟩ := field_of Tryd.underlying38 h 5 29 7 2 (by kernel_rfl)
    obtain ⟨n7, e7, _⟩ := leaf_int Tryd.underlying29 hc 0 2 0 .i64 (by kernel_rfl) Tryd.underlying2
    obtain ⟨n8, e8, _⟩ := leaf_int Tryd.underlying29 hc 1 3 1 .i64 (by kernel_rfl) Tryd.underlying3
    obtain ⟨n9, e9, w9⟩ := leaf_int Tryd.underlying38 h 6 2 9 .i64 (by kernel_rfl) Tryd.underlying2
    obtain ⟨s10, e10, _⟩ := leaf_str Tryd.underlying38 h 7 9 10 (by kernel_rfl) Tryd.underlying9
    simp only [List.drop_succ_cons, List.drop_zero, List.take_succ_cons, List.take_zero, List.cons.injEq, and_true] at e0 e1 e2 e3 e4 e5 e6 e7 e8 e9 e10
    subst e0 e1 e2 e3 e4 e5 e6 e7 e8 e9 e10
    exact ⟨⟨s0, n1, n2, n3, n4, n5, n6, n7, n8, n9, s10⟩, rfl, w9⟩
/-- an era by value -/
theorem open_era {fuel : Nat} {cs : List Value} {x : DataW H × List MemPlace} (hlen : cs.length = 13) (h : DataW.trod enc Tryd.prog w base sp held fuel 33 cs = some x) :
    ∃ (off kind save : Int) (set fmt : ByteArray) (ui : Bool) (uy um dk dw dd asec ab : Int), cs = [.int .i64 off, .int .i64 kind, .int .i64 save, .string set, .string fmt, .bool ui, .int .i64 uy, .int .i64 um, .int .i64 dk, .int .i64 dw, .int .i64 dd, .int .i64 asec, .int .i64 ab] ∧
      (Lit.int .i64 off).wf = true ∧ (Lit.int .i64 kind).wf = true ∧ (Lit.int .i64 save).wf = true ∧ set.size ≤ maxLen ∧ fmt.size ≤ maxLen := by
  match cs, hlen with
  | [c0, c1, c2, c3, c4, c5, c6, c7, c8, c9, c10, c11, c12], _ =>
    obtain ⟨n0, e0, w0⟩ := leaf_int Tryd.underlying33 h 0 2 0 .i64 (by kernel_rfl) Tryd.underlying2
    obtain ⟨n1, e1, w1⟩ := leaf_int Tryd.underlying33 h 1 3 1 .i64 (by kernel_rfl) Tryd.underlying3
    obtain ⟨n2, e2, w2⟩ := leaf_int Tryd.underlying33 h 2 2 2 .i64 (by kernel_rfl) Tryd.underlying2
    obtain ⟨s3, e3, w3⟩ := leaf_str Tryd.underlying33 h 3 9 3 (by kernel_rfl) Tryd.underlying9
    obtain ⟨s4, e4, w4⟩ := leaf_str Tryd.underlying33 h 4 9 4 (by kernel_rfl) Tryd.underlying9
    obtain ⟨m, y, hu⟩ := field_of Tryd.underlying33 h 5 31 5 8 (by kernel_rfl)
    obtain ⟨b5, e5⟩ := leaf_bool Tryd.underlying31 hu 0 4 0 (by kernel_rfl) Tryd.underlying4
    obtain ⟨n6, e6, _⟩ := leaf_int Tryd.underlying31 hu 1 3 1 .i64 (by kernel_rfl) Tryd.underlying3
    obtain ⟨n7, e7, _⟩ := leaf_int Tryd.underlying31 hu 2 3 2 .i64 (by kernel_rfl) Tryd.underlying3
    obtain ⟨m', y', hd⟩ := field_of Tryd.underlying31 hu 3 27 3 3 (by kernel_rfl)
    obtain ⟨n8, e8, _⟩ := leaf_int Tryd.underlying27 hd 0 3 0 .i64 (by kernel_rfl) Tryd.underlying3
    obtain ⟨n9, e9, _⟩ := leaf_int Tryd.underlying27 hd 1 3 1 .i64 (by kernel_rfl) Tryd.underlying3
    obtain ⟨n10, e10, _⟩ := leaf_int Tryd.underlying27 hd 2 3 2 .i64 (by kernel_rfl) Tryd.underlying3
    obtain ⟨m'', y'', hc⟩ := field_of Tryd.underlying31 hu 4 29 6 2 (by kernel_rfl)
    obtain ⟨n11, e11, _⟩ := leaf_int Tryd.underlying29 hc 0 2 0 .i64 (by kernel_rfl) Tryd.underlying2
    obtain ⟨n12, e12, _⟩ := leaf_int Tryd.underlying29 hc 1 3 1 .i64 (by kernel_rfl) Tryd.underlying3
    simp only [List.drop_succ_cons, List.drop_zero, List.take_succ_cons, List.take_zero, List.cons.injEq, and_true] at e0 e1 e2 e3 e4 e5 e6 e7 e8 e9 e10 e11 e12
    subst e0 e1 e2 e3 e4 e5 e6 e7 e8 e9 e10 e11 e12
    exact ⟨n0, n1, n2, s3, s4, b5, n6, n7, n8, n9, n10, n11, n12, rfl, w0, w1, w2, w3, w4⟩
theorem add_spotless (b o : Nat) (k j : Nat) : ((⟨b, o, none⟩ : Addr).add k).add j = ⟨b, o + k + j, none⟩ := by
  unfold Addr.add
  by_cases hk : k = 0 <;> by_cases hj : j = 0 <;> simp [hk, hj]
/-- a slice of rules that comes in -/
theorem open_rules {v : Value} {d : DataW H} {p : List MemPlace} (hok : ∃ a len cap, v = .slice a len cap) (h : DataW.Trod enc Tryd.prog w base sp held 24 v d p) :
    ∃ (A : Option Addr) (c : Nat) (L : List RV), v = .slice A L.length c ∧ L.length ≤ maxLen ∧ RulesIn w A L ∧ ∀ r ∈ L, (Lit.int .i64 r.save).wf = true := by
  obtain ⟨a0, len0, cap0, rfl⟩ := hok
  obtain ⟨fuel, hf⟩ := h
  rcases Go.Deep.open_slice Tryd.underlying24 hf with ⟨h0, _⟩ | ⟨a, len, cap, m, n, D, Pl, hcs, hb, hl, hm, hmm, hx, hi⟩
  · refine ⟨none, 0, [], ?_, Nat.zero_le _, RulesIn.nil _ _, fun r hr => by simp at hr⟩
    have : [Value.slice a0 len0 cap0] = [Value.slice none 0 0] := h0
    injection this
  · have hv : [Value.slice a0 len0 cap0] = [Value.slice (some a) len cap] := hcs
    injection hv with hv
    rw [hv]
    have hC : Tryd.prog.cellsOf 38 = 11 := by kernel_rfl
    have hlm : len ≤ m := by rw [hmm]; split <;> omega
    have key : ∀ i, i < len → ∃ r : RV, (Lit.int .i64 r.save).wf = true ∧ ∀ j u, r.cells[j]? = some u → w.cell? ((a.add (i * 11)).add j) = some u := by
      intro i hil
      obtain ⟨cs', hc, ht⟩ := hi i (by omega)
      rw [hC] at hc
      obtain ⟨_, hcl, hat⟩ := World.cells?_some hc
      obtain ⟨r, hr, hw⟩ := open_rule hcl ht
      refine ⟨r, hw, fun j u hu => ?_⟩
      have hj : j < 11 := (List.getElem?_eq_some_iff.mp hu).1
      rw [hat j hj, hr]; exact hu
    have key2 : ∃ L : List RV, L.length = len ∧ ∀ i r, L[i]? = some r → (Lit.int .i64 r.save).wf = true ∧ ∀ j u, r.cells[j]? = some u → w.cell? ((a.add (i * 11)).add j) = some u := by
      refine ⟨List.ofFn (fun i : Fin len => Classical.choose (key i.1 i.2)), by simp, fun i r hr => ?_⟩
      have hil : i < len := by have := (List.getElem?_eq_some_iff.mp hr).1; simpa using this
      rw [List.getElem?_ofFn, dif_pos hil] at hr
      injection hr with hr
      rw [← hr]
      exact Classical.choose_spec (key i hil)
    obtain ⟨L, hLl, hL⟩ := key2
    refine ⟨some a, cap, L, by rw [hLl], by rw [hLl]; omega, fun k r hr => ?_, fun r hr => ?_⟩
    · have h0 := (hL k r hr).2
      have hs : a.spot = none := by
        have h00 : 0 < L.length := by have := (List.getElem?_eq_some_iff.mp hr).1; omega
        have q := (hL 0 _ (List.getElem?_eq_getElem h00)).2 0 _ rfl
        rw [Nat.zero_mul] at q
        exact World.cell?_spot (by simpa [Addr.add] using q)
      obtain ⟨b, o, s⟩ := a
      simp only at hs
      subst hs
      have hc0 := h0 0 _ rfl
      refine ⟨b, o, rfl, ?_, fun j u hu => ?_⟩
      · rw [add_spotless] at hc0
        unfold World.cell? at hc0
        rcases Nat.lt_or_ge b w.heap.size with q | q
        · exact q
        · rw [Array.getElem?_eq_none q] at hc0; cases hc0
      · have := h0 j u hu
        rwa [add_spotless] at this
    · obtain ⟨k, hk⟩ := List.mem_iff_getElem?.1 hr
      exact (hL k r hk).1
end
end Go.Proofs.YtbajlkpjemandaaDoor
