/- Texts of one proof, one behind the other: Open20; Open23; Open25; Shape; Plain29b; Laws29a. -/
import Derived.Test.YtlideagcmhlkeaaDoorT10
import Derived.Deep.Slices
import Derived.Deep.Fields
import Derived.ChangeSame
import Derived.WideShapes
import Derived.OpenShut
import Derived.Handed
import Derived.HandedShaped

/- What an era by value and a slice of rules that come in read as (for the cards of chapter 20 and above). -/
namespace Go.Proofs.YtlideagcmhlkeaaDoor
open Go.RowKit Go.ChangeShapes Go.WideShapes
set_option linter.unusedVariables false

section
variable {H : Type} {enc : TypeId × Value → H} {w : World} {base : Nat} {sp : Nat → Bool} {held : Bool}
theorem field_of {P : Program} {t : TypeId} {fs : Array Field} {fuel : Nat} {cs : List Value} {x : DataW H × List MemPlace} (ht : P.underlying t = some (.struct fs)) (h : DataW.trod enc P w base sp held fuel t cs = some x) (i : Nat) (ty : TypeId) (o s : Nat)
    (hf : (fs[i]?).map (fun f => (f.type, f.offset, P.cellsOf f.type)) = some (ty, o, s)) : ∃ n y, DataW.trod enc P w base sp held n ty ((cs.drop o).take s) = some y := by
  obtain ⟨xs, n, _, _, _, hl, hg⟩ := DataW.trod_struct ht h
  cases hq : fs[i]? with
  | none => rw [hq] at hf; cases hf
  | some f =>
    rw [hq] at hf
    simp only [Option.map_some, Option.some.injEq, Prod.mk.injEq] at hf
    obtain ⟨rfl, rfl, rfl⟩ := hf
    have hi : i < xs.length := by rw [hl]; exact (Array.getElem?_eq_some_iff.1 hq).1
    exact ⟨n, xs[i], (hg i f hq).trans (List.getElem?_eq_getElem hi)⟩
theorem leaf_int {P : Program} {t : TypeId} {fs : Array Field} {fuel : Nat} {cs : List Value} {x : DataW H × List MemPlace} (ht : P.underlying t = some (.struct fs)) (h : DataW.trod enc P w base sp held fuel t cs = some x) (i : Nat) (ty : TypeId) (o : Nat) (k : IntKind)
    (hf : (fs[i]?).map (fun f => (f.type, f.offset, P.cellsOf f.type)) = some (ty, o, 1)) (hk : P.underlying ty = some (.int k)) : ∃ n, (cs.drop o).take 1 = [.int k n] ∧ (Lit.int k n).wf = true := by
  obtain ⟨n, y, hy⟩ := field_of ht h i ty o 1 hf
  obtain ⟨z, e, _, hw⟩ := DataW.trod_int hk hy
  exact ⟨z, e, hw⟩
end
end Go.Proofs.YtlideagcmhlkeaaDoor

/- What a draft of layer 23 that comes in reads as (for the cards of chapter 30). -/
namespace Go.Proofs.YtlideagcmhlkeaaDoor
open Go.RowKit Go.ChangeShapes Go.WideShapes
set_option linter.unusedVariables false

section
variable {H : Type} {enc : TypeId × Value → H} {w : World} {base : Nat} {sp : Nat → Bool} {held : Bool}
/-- a slice that comes in, with its room -/
theorem open_cellsC {P : Program} {α : Type} {t e : TypeId} {m : Nat} {f : α → List Value} {Good : α → Prop} {fuel : Nat} {cs : List Value} {x : DataW H × List MemPlace} (ht : P.underlying t = some (.slice e)) (hC : P.cellsOf e = m) (h0 : 0 < m)
    (hopen : ∀ (fuel : Nat) (cs : List Value) (x : DataW H × List MemPlace), cs.length = m → DataW.trod enc P w base sp held fuel e cs = some x → ∃ r : α, cs = f r ∧ Good r)
    (hf : DataW.trod enc P w base sp held fuel t cs = some x) :
    ∃ (A : Option Addr) (c : Nat) (L : List α), cs = [.slice A L.length c] ∧ L.length ≤ maxLen ∧ CellsIn m f w A L ∧ (∀ r ∈ L, Good r) ∧ L.length ≤ c := by
  obtain ⟨A, c, L, h1, h2, h3, h4⟩ := open_cells ht hC h0 hopen hf
  refine ⟨A, c, L, h1, h2, h3, h4, ?_⟩
  rcases Go.Deep.open_slice ht hf with ⟨h0', _⟩ | ⟨a, len, cap, m', n, D, Pl, hcs, hb, hl, hm, hmm, hx, hi⟩
  · rw [h0'] at h1
    injection h1 with h1
    injection h1 with _ q2 q3
    omega
  · rw [hcs] at h1
    injection h1 with h1
    injection h1 with _ q2 q3
    omega
theorem open_byte {fuel : Nat} {cs : List Value} {x : DataW H × List MemPlace} (hlen : cs.length = 1) (h : DataW.trod enc Tryd.prog w base sp held fuel 5 cs = some x) : ∃ n : Int, cs = u8Cell n ∧ 0 ≤ n ∧ n ≤ 255 := by
  obtain ⟨n, e, _, hw⟩ := DataW.trod_int Tryd.underlying5 h
  exact ⟨n, e, bounds_u8 hw⟩
/-- one set's bytes -/
theorem open_set23 {fuel : Nat} {cs : List Value} {x : DataW H × List MemPlace} (hlen : cs.length = 1) (h : DataW.trod enc Tryd.prog w base sp held fuel 98 cs = some x) : ∃ s : Option Addr × Nat × List Int, cs = setCells s ∧ Dr w s.1 s.2.2 := by
  obtain ⟨A, c, L, h1, h2, h3, h4⟩ := open_cells (m := 1) (f := u8Cell) (Good := fun n => 0 ≤ n ∧ n ≤ 255) Tryd.underlying98 (by kernel_rfl) (by decide) (fun fuel cs x hl hx => open_byte hl hx) h
  exact ⟨(A, c, L), h1, h2, h3, h4⟩
end
end Go.Proofs.YtlideagcmhlkeaaDoor

/- What a draft of layer 25 that comes in reads as (for the cards of chapter 29). -/
namespace Go.Proofs.YtlideagcmhlkeaaDoor
open Go.RowKit Go.ChangeShapes Go.WideShapes
set_option linter.unusedVariables false

section
variable {H : Type} {enc : TypeId × Value → H} {w : World} {base : Nat} {sp : Nat → Bool} {held : Bool}
/-- a draft by value -/
theorem open_draft25 {fuel : Nat} {cs : List Value} {x : DataW H × List MemPlace} (hlen : cs.length = 4) (h : DataW.trod enc Tryd.prog w base sp held fuel 79 cs = some x) :
    ∃ d : D25, cs = [.slice d.sA d.sets.length d.sc, .int .u8 d.zs, .int .u8 d.ls, .slice d.lA d.nums.length d.lc] ∧ D25In w d := by
  match cs, hlen with
  | [c0, c1, c2, c3], _ =>
    obtain ⟨m0, y0, hd0⟩ := field_of Tryd.underlying79 h 0 22 0 1 (by kernel_rfl)
    obtain ⟨n1, e1, w1⟩ := leaf_int Tryd.underlying79 h 1 5 1 .u8 (by kernel_rfl) Tryd.underlying5
    obtain ⟨n2, e2, w2⟩ := leaf_int Tryd.underlying79 h 2 5 2 .u8 (by kernel_rfl) Tryd.underlying5
    obtain ⟨m3, y3, hd3⟩ := field_of Tryd.underlying79 h 3 24 3 1 (by kernel_rfl)
    obtain ⟨A0, k0, L0, e0, l0, i0, g0, _⟩ := open_cellsC (m := 1) (f := setCells) (Good := fun s => Dr w s.1 s.2.2) Tryd.underlying22 (by kernel_rfl) (by decide) (fun fuel cs x hl hx => open_set23 hl hx) hd0
    obtain ⟨A3, k3, L3, e3, l3, i3, g3, q3⟩ := open_cellsC (m := 1) (f := u8Cell) (Good := fun n => 0 ≤ n ∧ n ≤ 255) Tryd.underlying24 (by kernel_rfl) (by decide) (fun fuel cs x hl hx => open_byte hl hx) hd3
    simp only [List.drop_succ_cons, List.drop_zero, List.take_succ_cons, List.take_zero, List.cons.injEq, and_true] at e0 e1 e2 e3
    subst e0 e1 e2 e3
    exact ⟨⟨A0, k0, L0, n1, n2, A3, k3, L3⟩, rfl, i0, g0, ⟨l3, i3, g3⟩, l0, bounds_u8 w1, bounds_u8 w2⟩
end
end Go.Proofs.YtlideagcmhlkeaaDoor

/- The wrap of a law's row whose walk asks for the world's shape beside the listed variables. No function of the program. -/
namespace Go.Proofs.YtlideagcmhlkeaaDoor
open Go
section
variable {H : Type} {enc : TypeId × Value → H}
theorem handed_shaped {a : Assume} {C : Checked} {os : Os} {f : FuncId} {fn : Func} {s : ChangeSpec} {conds : List PathCond} {apart fresh handsOn again : Bool} {X : World → Array Value → Prop}
    (hX : ∀ (w w' : World) (args : Array Value), w.heap = w'.heap → X w args → X w' args)
    (own : ownKnob C.prog.godebug = none) (started : os.Started) (noInit : C.prog.inits.idxOf? f = none) (hfn : C.prog.funcs[f]? = some fn)
    (witness : ∃ (w : World) (tape : Tape) (i : Input), w.os = os ∧ (w.forCall tape i).Shaped C.prog ∧ i.vars = [] ∧ Input.okWide C.prog (w.forCall tape i) .any w.heap.size f i ∧
      ((s.pre enc C.prog fn conds apart (w.forCall tape i).memory i.args ∧ X (w.forCall tape i).memory i.args) ∧ sizedMet enc C.prog fn (OpenSpec.ofChange s) apart (w.forCall tape i).memory i.args) ∧ a.holds C.prog (lone (Frame.enter C.prog f i.args .normal) [] (w.forCall tape i)))
    (contract : ∀ (W : World) (base : Nat) (args : Array Value) (ds gs : List (DataW H)) (before : List MemPlace),
      (∀ (j : Nat) t v, fn.params[j]? = some t → args[j]? = some v → Value.okWide C.prog W .any base t v) →
      DataW.Whole enc C.prog fn.params.toList s.vars apart W args.toList ds gs before →
      conds.all (PathCond.test C.prog ⟨fn.params.toList, ds, s.plain.varTypes C.prog, gs⟩) = true →
      (DataW.weightsEach C.prog (fn.params.toList ++ s.plain.varTypes C.prog) (ds ++ gs)).all (· ≤ reachBytes) = true → X W args → W.ShapedOpen C.prog →
      a.holds C.prog (lone (Frame.enter C.prog f args .normal) [] W) →
      Calls C.prog f args W fun e W' => ∃ v, e = .returned v ∧ s.post enc C.prog fn apart fresh handsOn again W args v W') :
    ReturnsInHanded a C os f .any (fun w args => (s.pre enc C.prog fn conds apart w args ∧ X w args) ∧ sizedMet enc C.prog fn (OpenSpec.ofChange s) apart w args) (s.post enc C.prog fn apart fresh handsOn again) := by
  refine returnsInHanded_of_calls own started noInit witness ?_
  intro w tape i _ hsh _ hok hpre hholds
  obtain ⟨_, _, _, fn', hfn', _, _, _, _, hval⟩ := hok
  obtain rfl : fn' = fn := Option.some.inj (hfn'.symm.trans hfn)
  obtain ⟨⟨⟨ds, gs, before, hw, hc⟩, hx⟩, hz⟩ := hpre
  have hw' := DataW.Whole.of_heap (w' := w.forCall tape i) (by rfl) hw
  refine (contract (w.forCall tape i) w.heap.size i.args ds gs before hval hw' hc (hz.weights hw) (hX _ _ _ (by rfl) hx) hsh hholds).mono fun e W' h => ?_
  obtain ⟨v, he, hp⟩ := h
  subst he
  exact ChangeSpec.post_blind hp
end
end Go.Proofs.YtlideagcmhlkeaaDoor

/- Turned sources: twice is as before, two sets in either order. No function of the program. -/
namespace Go.Proofs.YtlideagcmhlkeaaDoor
open Go.RowKit
set_option linter.unusedVariables false

theorem sSame14.map' {a b : SV} (h : sSame14 a b) (G : EV → EV) : sSame14 (mapS G a) (mapS G b) := ⟨h.rules, h.links, h.shifts, by show (a.zones.map _).length = (b.zones.map _).length; rw [List.length_map, List.length_map]; exact h.zones.1, fun i z y hi hz hy => by
  have hz' : (a.zones.map (mapE G))[i]? = some z := hz
  have hy' : (b.zones.map (mapE G))[i]? = some y := hy
  rw [List.getElem?_map] at hz' hy'
  cases q1 : a.zones[i]? with
  | none => rw [q1] at hz'; cases hz'
  | some z0 =>
    cases q2 : b.zones[i]? with
    | none => rw [q2] at hy'; cases hy'
    | some y0 =>
      rw [q1] at hz'; rw [q2] at hy'
      injection hz' with hz'; injection hy' with hy'
      have q := h.zones.2 i z0 y0 (List.getElem?_eq_some_iff.1 q1).1 q1 q2
      subst hz' hy'
      exact ⟨q.1, by show z0.eras.map G = y0.eras.map G; rw [q.2]⟩⟩
/-- turned twice a source is as before -/
theorem twice29 {a b s : SV} {set : ByteArray} (ha : sSame14 a (mapS (turnE set) s)) (hb : sSame14 b (mapS (turnE set) a)) : sSame14 b s := by
  have q := hb.trans (ha.map' (turnE set))
  rwa [mapS_mapS29, mapS_id29 fun z _ e _ => turnE_turn set e] at q
/-- the order of two sets does not matter -/
theorem comm29 {a b c e s : SV} {x y : ByteArray} (hxy : x ≠ y) (ha : sSame14 a (mapS (turnE x) s)) (hb : sSame14 b (mapS (turnE y) a)) (hc : sSame14 c (mapS (turnE y) s)) (he : sSame14 e (mapS (turnE x) c)) : sSame14 b e := by
  have q1 := hb.trans (ha.map' (turnE y))
  have q2 := he.trans (hc.map' (turnE x))
  rw [mapS_mapS29] at q1 q2
  rw [mapS_ext29 fun e => turnE_comm x y hxy e] at q2
  exact q1.trans q2.symm
theorem turned_at {a s : SV} {x : ByteArray} (ha : sSame14 a (mapS (turnE x) s)) {i : Nat} {z : ZV} (hz : s.zones[i]? = some z) : ∃ y, a.zones[i]? = some y ∧ y.eras = z.eras.map (turnE x) := by
  have hi : i < (mapS (turnE x) s).zones.length := by show i < (s.zones.map _).length; rw [List.length_map]; exact (List.getElem?_eq_some_iff.1 hz).1
  have hia : i < a.zones.length := by rw [ha.zones.1]; exact hi
  refine ⟨a.zones[i], List.getElem?_eq_getElem hia, ?_⟩
  have hz' : (mapS (turnE x) s).zones[i]? = some (mapE (turnE x) z) := by show (s.zones.map _)[i]? = _; rw [List.getElem?_map, hz]; rfl
  exact (ha.zones.2 i _ _ hia (List.getElem?_eq_getElem hia) hz').2
theorem turned_len {a s : SV} {x : ByteArray} (ha : sSame14 a (mapS (turnE x) s)) : a.zones.length = s.zones.length := by
  rw [ha.zones.1]; show (s.zones.map _).length = _; rw [List.length_map]
end Go.Proofs.YtlideagcmhlkeaaDoor

/- The walk of the law TurnApart (chapter 29). -/
namespace Go.Proofs.YtlideagcmhlkeaaDoor
open Go.RowKit Go.Lib
set_option linter.unusedVariables false
set_option linter.unusedSimpArgs false

/-- where the region stands in which both sources are made -/
structure Ap1 (w : World) (d : D25) (y3 y4 : Value) (W : World) : Prop where
  bx : Blk W w.heap.size 79 #[.slice d.sA d.sets.length d.sc, .int .u8 d.zs, .int .u8 d.ls, .slice d.lA d.nums.length d.lc]
  bel : Below w.heap.size w W
  d3 : ∀ g : Nat, y3 = Value.pointer (some ⟨g, 0, none⟩) → w.heap.size < g ∧ ∃ a b c e, Blk W g 32 #[a, b, c, e]
  d4 : ∀ g : Nat, y4 = Value.pointer (some ⟨g, 0, none⟩) → w.heap.size < g ∧ ∃ a b c e, Blk W g 32 #[a, b, c, e]
  ne : ∀ g : Nat, y3 = Value.pointer (some ⟨g, 0, none⟩) → y4 ≠ Value.pointer (some ⟨g, 0, none⟩)
theorem Ap1.below {w W W' : World} {d : D25} {y3 y4 : Value} (h : Ap1 w d y3 y4 W) (hb : Below W.heap.size W W') : Ap1 w d y3 y4 W' :=
  ⟨h.bx.below hb h.bx.lt, h.bel.trans (hb.mono h.bel.size), fun g hg => by
    obtain ⟨h1, a, b, c, e, h2⟩ := h.d3 g hg
    exact ⟨h1, a, b, c, e, h2.below hb h2.lt⟩, fun g hg => by
    obtain ⟨h1, a, b, c, e, h2⟩ := h.d4 g hg
    exact ⟨h1, a, b, c, e, h2.below hb h2.lt⟩, h.ne⟩
theorem Ap1.al3 {w W : World} {d : D25} {y3 y4 : Value} (h : Ap1 w d y3 y4 W) : Ap1 w d (Value.pointer (some ⟨W.heap.size, 0, none⟩)) y4 (W.alloc (.cells #[.slice none 0 0, .slice none 0 0, .slice none 0 0, .slice none 0 0] 32)) := by
  have q := h.below ((Below.refl W.heap.size W).alloc (Nat.le_refl _) (.cells #[.slice none 0 0, .slice none 0 0, .slice none 0 0, .slice none 0 0] 32))
  refine ⟨q.bx, q.bel, fun g hg => ?_, q.d4, fun g hg hq => ?_⟩
  · injection hg with hg; injection hg with hg; injection hg with hg _ _
    subst hg
    exact ⟨h.bx.lt, _, _, _, _, Blk.new W 32 #[.slice none 0 0, .slice none 0 0, .slice none 0 0, .slice none 0 0]⟩
  · injection hg with hg; injection hg with hg; injection hg with hg _ _
    obtain ⟨_, a, b, c, e, hb⟩ := h.d4 g hq
    have := hb.lt
    omega
theorem Ap1.al4 {w W : World} {d : D25} {y3 y4 : Value} (h : Ap1 w d y3 y4 W) : Ap1 w d y3 (Value.pointer (some ⟨W.heap.size, 0, none⟩)) (W.alloc (.cells #[.slice none 0 0, .slice none 0 0, .slice none 0 0, .slice none 0 0] 32)) := by
  have q := h.below ((Below.refl W.heap.size W).alloc (Nat.le_refl _) (.cells #[.slice none 0 0, .slice none 0 0, .slice none 0 0, .slice none 0 0] 32))
  refine ⟨q.bx, q.bel, q.d3, fun g hg => ?_, fun g hq hg => ?_⟩
  · injection hg with hg; injection hg with hg; injection hg with hg _ _
    subst hg
    exact ⟨h.bx.lt, _, _, _, _, Blk.new W 32 #[.slice none 0 0, .slice none 0 0, .slice none 0 0, .slice none 0 0]⟩
  · injection hg with hg; injection hg with hg; injection hg with hg _ _
    obtain ⟨_, a, b, c, e, hb⟩ := h.d3 g hq
    have := hb.lt
    omega
theorem blk_set4 {W : World} {g g' : Nat} {cs : Array Value} {t : TypeId} (h : Blk W g t cs) (hne : g ≠ g') (a b c e : Value) : Blk ((((W.setCell ⟨g', 0, none⟩ a).setCell ⟨g', 1, none⟩ b).setCell ⟨g', 2, none⟩ c).setCell ⟨g', 3, none⟩ e) g t cs :=
  (((h.far (p := ⟨g', 0, none⟩) hne a).far (p := ⟨g', 1, none⟩) hne b).far (p := ⟨g', 2, none⟩) hne c).far (p := ⟨g', 3, none⟩) hne e
theorem Ap1.set4 {w W : World} {d : D25} {y3 y4 : Value} (h : Ap1 w d y3 y4 W) {g : Nat} {a b c e : Value} (hl : w.heap.size < g) (hb : Blk W g 32 #[a, b, c, e]) (a' b' c' e' : Value) : Ap1 w d y3 y4 ((((W.setCell ⟨g, 0, none⟩ a').setCell ⟨g, 1, none⟩ b').setCell ⟨g, 2, none⟩ c').setCell ⟨g, 3, none⟩ e') := by
  have hs := GS.set4 hb a' b' c' e'
  exact ⟨blk_set4 h.bx (by omega) _ _ _ _, below_set4 h.bel (Nat.le_of_lt hl) _ _ _ _, fun g' hg => ⟨(h.d3 g' hg).1, hs.1.own g' (h.d3 g' hg).2⟩, fun g' hg => ⟨(h.d4 g' hg).1, hs.1.own g' (h.d4 g' hg).2⟩, h.ne⟩
theorem zero_rule29 (w : World) : (zeroValue 83).run Tryd.prog w = .ok (.agg #[.string ⟨#[]⟩, .int .i64 0, .int .i64 0, .int .i64 0, .int .i64 0, .int .i64 0, .int .i64 0, .int .i64 0, .int .i64 0, .int .i64 0, .string ⟨#[]⟩]) w := by kernel_rfl
theorem zero_link29 (w : World) : (zeroValue 94).run Tryd.prog w = .ok (.agg #[.string ⟨#[]⟩, .string ⟨#[]⟩]) w := by kernel_rfl
theorem zero_era29 (w : World) : (zeroValue 47).run Tryd.prog w = .ok (.agg #[.int .i64 0, .int .i64 0, .int .i64 0, .string ⟨#[]⟩, .string ⟨#[]⟩, .bool false, .int .i64 0, .int .i64 0, .int .i64 0, .int .i64 0, .int .i64 0, .int .i64 0, .int .i64 0]) w := by kernel_rfl
theorem big_few29 {s : SV} (hf : Few30 s) : big14 s := ⟨hf.lens.1, hf.lens.2.1, hf.lens.2.2.1, hf.lens.2.2.2, hf.eras⟩
theorem same13_yes {a b : SV} (h : sSame14 a b) (hb : big14 a) (W : World) (hA : SrcIn W a) (hB : SrcIn W b) :
    Calls Tryd.prog 34 #[.agg #[.slice a.rA a.rules.length a.rc, .slice a.zA a.zones.length a.zc, .slice a.kA a.links.length a.kc, .slice a.hA a.shifts.length a.hc], .agg #[.slice b.rA b.rules.length b.rc, .slice b.zA b.zones.length b.zc, .slice b.kA b.links.length b.kc, .slice b.hA b.shifts.length b.hc]] W fun x W' => x = .returned (.bool true) ∧ Below W.heap.size W W' := by
  refine (same13_any a b W hA hB hb).mono ?_
  rintro x W' ⟨R, hR, rfl, hb'⟩
  obtain rfl : R = true := hR.2 h
  exact ⟨rfl, hb'⟩
set_option maxRecDepth 100000 in
set_option maxHeartbeats 16000000 in
theorem walkTurnApart (d : D25) (w : World) (hd : D25In w d) (hv : Vars21 w) :
    Calls Tryd.prog 10 #[.agg #[.slice d.sA d.sets.length d.sc, .int .u8 d.zs, .int .u8 d.ls, .slice d.lA d.nums.length d.lc]] w fun e w' => e = .returned (.bool true) ∧ Below w.heap.size w w' := by
  have HB0 := Lib.hid ((Below.refl w.heap.size w).alloc (Nat.le_refl _) (.cells #[.slice d.sA d.sets.length d.sc, .int .u8 d.zs, .int .u8 d.ls, .slice d.lA d.nums.length d.lc] 79))
  have HS0 := Lib.hid (show Ap1 w d undef undef (w.alloc (.cells #[.slice d.sA d.sets.length d.sc, .int .u8 d.zs, .int .u8 d.ls, .slice d.lA d.nums.length d.lc] 79)) from ⟨Blk.new w 79 #[.slice d.sA d.sets.length d.sc, .int .u8 d.zs, .int .u8 d.ls, .slice d.lA d.nums.length d.lc], HB0.out, fun g hg => by (first | cases hg | contradiction), fun g hg => by (first | cases hg | contradiction), fun g hg => by (first | cases hg | contradiction)⟩)
  have HD := Lib.hid hd; have HV := Lib.hid hv
  clear hd hv
  go_enter Tryd.func10, Tryd.ntmps10
  go_upto_region 1 with fail
  refine wp_region_shapeZ [(some 7, []), (some 8, [0]), (some 9, []), (some 10, [2, 1]), (some 3, []), (some 4, []), (none, [4, 1, 3, 0, 1, 4, 5]), (none, [5, 3, 6, 0, 1, 2, 3, 4, 5, 6])] (fun y => { tmps := #[.agg #[.slice d.sA d.sets.length d.sc, .int .u8 d.zs, .int .u8 d.ls, .slice d.lA d.nums.length d.lc], Value.pointer (some ⟨w.heap.size, 0, none⟩), .bool false, y 3, y 4, undef, undef, y 7, y 8, y 9, y 10, undef, undef, undef, undef, undef, undef, undef, undef, undef, undef, undef, undef, undef, undef, undef, undef, undef, undef, undef, undef, undef, undef, undef, undef, undef, undef, undef, undef, undef, undef], defers := [] }) (fun _ => undef) (fun j => j == 1 || j == 3 || j == 4 || j == 5 || j == 6 || j == 7) [.agg #[.slice d.sA d.sets.length d.sc, .int .u8 d.zs, .int .u8 d.ls, .slice d.lA d.nums.length d.lc], undef, .agg #[.slice d.sA d.sets.length d.sc, .int .u8 d.zs, .int .u8 d.ls, .slice d.lA d.nums.length d.lc], undef, undef, undef, undef, undef] (fun j y W => match j with | 1 => ∃ t : SV, y 8 = Value.agg #[.slice t.rA t.rules.length t.rc, .slice t.zA t.zones.length t.zc, .slice t.kA t.links.length t.kc, .slice t.hA t.shifts.length t.hc] ∧ SrcG W t ∧ Is25 d t | 3 => ∃ t : SV, y 10 = Value.agg #[.slice t.rA t.rules.length t.rc, .slice t.zA t.zones.length t.zc, .slice t.kA t.links.length t.kc, .slice t.hA t.shifts.length t.hc] ∧ SrcG W t ∧ Is25 d t | 4 => ∃ g : Nat, y 3 = Value.pointer (some ⟨g, 0, none⟩) | 5 => ∃ g : Nat, y 4 = Value.pointer (some ⟨g, 0, none⟩) | 6 => True | 7 => ∃ (g : Nat) (t : SV), y 4 = Value.pointer (some ⟨g, 0, none⟩) ∧ y 10 = Value.agg #[.slice t.rA t.rules.length t.rc, .slice t.zA t.zones.length t.zc, .slice t.kA t.links.length t.kc, .slice t.hA t.shifts.length t.hc] ∧ SrcG W t ∧ Is25 d t ∧ Blk W g 32 #[.slice t.rA t.rules.length t.rc, .slice t.zA t.zones.length t.zc, .slice t.kA t.links.length t.kc, .slice t.hA t.shifts.length t.hc] | _ => True) (fun j => match j with | 1 => [8] | 3 => [10] | 4 => [3] | 5 => [4] | 6 => [] | 7 => [4, 10] | _ => []) (GS) (fun y ex W => Ap1 w d (y 3) (y 4) W ∧ (ex 6 = true → ∃ (g : Nat) (t : SV), y 3 = Value.pointer (some ⟨g, 0, none⟩) ∧ y 8 = Value.agg #[.slice t.rA t.rules.length t.rc, .slice t.zA t.zones.length t.zc, .slice t.kA t.links.length t.kc, .slice t.hA t.shifts.length t.hc] ∧ SrcG W t ∧ Is25 d t ∧ Blk W g 32 #[.slice t.rA t.rules.length t.rc, .slice t.zA t.zones.length t.zc, .slice t.kA t.links.length t.kc, .slice t.hA t.shifts.length t.hc])) (by kernel_rfl) (by kernel_rfl) (by decide +kernel) rfl ⟨HS0.out.below (Below.refl _ _).drew, fun q => by cases q⟩ ?hput1 ?hloc1 ?hmono1 ?hstep1 ?hdone1
  case hput1 =>
    intro d hd y v
    simp only [List.filterMap_cons, List.filterMap_nil, List.mem_cons, List.not_mem_nil, or_false] at hd
    rcases hd with rfl | rfl | rfl | rfl | rfl | rfl
    all_goals rfl
  case hloc1 =>
    intro j hj y y' W hk hx
    have hj' : j = 1 ∨ j = 3 ∨ j = 4 ∨ j = 5 ∨ j = 6 ∨ j = 7 := by simpa [or_assoc] using hj
    rcases hj' with rfl | rfl | rfl | rfl | rfl | rfl
    · simp only [List.forall_mem_cons, List.not_mem_nil, false_imp_iff, implies_true, and_true] at hk
      show _
      simpa only [hk] using hx
    · simp only [List.forall_mem_cons, List.not_mem_nil, false_imp_iff, implies_true, and_true] at hk
      show _
      simpa only [hk] using hx
    · simp only [List.forall_mem_cons, List.not_mem_nil, false_imp_iff, implies_true, and_true] at hk
      show _
      simpa only [hk] using hx
    · simp only [List.forall_mem_cons, List.not_mem_nil, false_imp_iff, implies_true, and_true] at hk
      show _
      simpa only [hk] using hx
    · skip
      exact hx
    · simp only [List.forall_mem_cons, List.not_mem_nil, false_imp_iff, implies_true, and_true] at hk
      simpa only [hk.1, hk.2] using hx
  case hmono1 =>
    intro j hj hlast y W W' hg hx
    have hj' : j = 1 ∨ j = 3 ∨ j = 4 ∨ j = 5 ∨ j = 6 ∨ j = 7 := by simpa [or_assoc] using hj
    rcases hj' with rfl | rfl | rfl | rfl | rfl | rfl
    · obtain ⟨t, h1, h2, h3⟩ := hx; exact ⟨t, h1, h2.step hg, h3⟩
    · obtain ⟨t, h1, h2, h3⟩ := hx; exact ⟨t, h1, h2.step hg, h3⟩
    · exact hx
    · exact hx
    · trivial
    · exact absurd hlast (by decide)
  case hdone1 =>
    intro y1 w1 hS hd
    have e7 : y1 7 = .agg #[.slice d.sA d.sets.length d.sc, .int .u8 d.zs, .int .u8 d.ls, .slice d.lA d.nums.length d.lc] := (hd 0 (by decide)).val rfl rfl
    have e9 : y1 9 = .agg #[.slice d.sA d.sets.length d.sc, .int .u8 d.zs, .int .u8 d.ls, .slice d.lA d.nums.length d.lc] := (hd 2 (by decide)).val rfl rfl
    have x7 : (fun (y : Nat → Value) (W : World) => ∃ (g : Nat) (t : SV), y 4 = Value.pointer (some ⟨g, 0, none⟩) ∧ y 10 = Value.agg #[.slice t.rA t.rules.length t.rc, .slice t.zA t.zones.length t.zc, .slice t.kA t.links.length t.kc, .slice t.hA t.shifts.length t.hc] ∧ SrcG W t ∧ Is25 d t ∧ Blk W g 32 #[.slice t.rA t.rules.length t.rc, .slice t.zA t.zones.length t.zc, .slice t.kA t.links.length t.kc, .slice t.hA t.shifts.length t.hc]) y1 w1 := (hd 7 (by decide)).ex rfl
    obtain ⟨⟨_, bel, d3, d4, _⟩, hS2⟩ := hS
    obtain ⟨g3, s, h3, h8, hG, hI, hb3⟩ := hS2 (by decide)
    obtain ⟨g4, r, h4, h10, hG4, hI4, hb4⟩ := x7
    obtain ⟨hl3, _⟩ := d3 g3 h3
    obtain ⟨hl4, _⟩ := d4 g4 h4
    have HW1 := Lib.hid bel; have HG3 := Lib.hid hG; have HG4 := Lib.hid hG4; have HI3 := Lib.hid hI; have HI4 := Lib.hid hI4; have HX3 := Lib.hid hb3; have HX4 := Lib.hid hb4; have HL3 := Lib.hid hl3; have HL4 := Lib.hid hl4
    clear hd hS2 bel d3 d4 hG hG4 hI hI4
    have HF := Lib.hid HI3.out.good.few
    have c0 := (hb3.cell 0).trans rfl; have c1 := (hb3.cell 1).trans rfl; have c2 := (hb3.cell 2).trans rfl; have c3 := (hb3.cell 3).trans rfl
    clear hb3 hb4 hl3 hl4
    rw [e7, e9, h8, h10, h3, h4]
    clear e7 e9 h8 h10 h3 h4
    obtain ⟨W1, hW1⟩ : ∃ x, x = w1 := ⟨_, rfl⟩
    subst hW1
    go_wp2_with fail
    refine (teras_any s ⟨#[82]⟩ W1 HG3.out.src HF.out (HV.out.below HW1.out)).mono ?_
    rintro e W2 ⟨a, rfl, hcp, hsm, hc⟩
    have HW2 := Lib.hid (HW1.out.trans (hc.mono HW1.out.size))
    have HC := Lib.hid hc
    have HGA := Lib.hid (show Good25 a from ((HI3.out.good.turn ⟨#[82]⟩).same hsm))
    have hal := (Below.refl W2.heap.size W2).alloc (Nat.le_refl _) (.cells #[.slice a.rA a.rules.length a.rc, .slice a.zA a.zones.length a.zc, .slice a.kA a.links.length a.kc, .slice a.hA a.shifts.length a.hc] 32)
    have HA3 := Lib.hid ((Ap.of hcp).below hal)
    have HX5 := Lib.hid (Blk.new W2 32 #[.slice a.rA a.rules.length a.rc, .slice a.zA a.zones.length a.zc, .slice a.kA a.links.length a.kc, .slice a.hA a.shifts.length a.hc])
    have HB5 := Lib.hid ((HC.out.trans (hal.mono HC.out.size)))
    clear hcp hsm hc c0 c1 c2 c3
    have c0 := (HX5.out.cell 0).trans rfl; have c1 := (HX5.out.cell 1).trans rfl; have c2 := (HX5.out.cell 2).trans rfl
    obtain ⟨b0, v0, hb0, hv0, hr0⟩ := run_clear_row (P := Tryd.prog) (W2.alloc (.cells #[.slice a.rA a.rules.length a.rc, .slice a.zA a.zones.length a.zc, .slice a.kA a.links.length a.kc, .slice a.hA a.shifts.length a.hc] 32)) 27 83 _ Tryd.underlying27 zero_rule29 (by decide) (by decide) W1.heap.size W2.heap.size a.rules.length a.rc a.rA HA3.out.rules
    have HA4 := Lib.hid (HA3.out.cleared hv0 HA3.out.ner)
    have HX6 := Lib.hid (blk_cleared HX5.out hv0 (Nat.le_refl _))
    have HB6 := Lib.hid (below_setCells29 b0 hb0 v0 0 HB5.out)
    have c2 := (HX6.out.cell 2).trans rfl
    clear hal hb0 hv0 HA3 HB5
    obtain ⟨b1, v1, hb1, hv1, hr1⟩ := run_clear_row (P := Tryd.prog) ((W2.alloc (.cells #[.slice a.rA a.rules.length a.rc, .slice a.zA a.zones.length a.zc, .slice a.kA a.links.length a.kc, .slice a.hA a.shifts.length a.hc] 32)).setCells b0 0 v0) 29 94 _ Tryd.underlying29 zero_link29 (by decide) (by decide) W1.heap.size W2.heap.size a.links.length a.kc a.kA HA4.out.links
    have HA5 := Lib.hid (HA4.out.cleared hv1 HA4.out.nel)
    have HX7 := Lib.hid (blk_cleared HX6.out hv1 (Nat.le_refl _))
    have HB7 := Lib.hid (below_setCells29 b1 hb1 v1 0 HB6.out)
    have c1 := (HX7.out.cell 1).trans rfl
    have hzl : (a.zones.length : Int) ≤ 3 := by have := HGA.out.zones; omega
    clear hb1 hv1 HA4 HX6 HX5 HB6
    go_wp2_with (first | simp only [hr0] | simp only [hr1])
    clear hr0 hr1 c0 c1 c2
    generalize (((W2.alloc (.cells #[.slice a.rA a.rules.length a.rc, .slice a.zA a.zones.length a.zc, .slice a.kA a.links.length a.kc, .slice a.hA a.shifts.length a.hc] 32)).setCells b0 0 v0).setCells b1 0 v1) = V at HA5 HX7 HB7 ⊢
    go_loopw [20] (fun i W => ∃ k : Nat, k ≤ a.zones.length ∧ i = .int .i64 k ∧ Ap W W1.heap.size W2.heap.size a ∧ Blk W W2.heap.size 32 #[.slice a.rA a.rules.length a.rc, .slice a.zA a.zones.length a.zc, .slice a.kA a.links.length a.kc, .slice a.hA a.shifts.length a.hc] ∧ Below W1.heap.size W1 W) (fun i _ => a.zones.length - (intOf i).toNat)
    case atStart => exact ⟨0, Nat.zero_le _, rfl, HA5.out, HX7.out, HB7.out⟩
    case round =>
      clear HA5 HX7 HB7
      obtain ⟨k, hk, rfl, hap, hx5, hbl⟩ := hrel
      have HAP := Lib.hid hap; have HX := Lib.hid hx5; have HBL := Lib.hid hbl
      clear hap hx5 hbl
      by_cases hlt : k < a.zones.length
      · have hki : (k : Int) < (a.zones.length : Int) := by omega
        have hk0 : (0 : Int) ≤ (k : Int) := by omega
        obtain ⟨z, hz⟩ : ∃ z, a.zones[k]? = some z := ⟨_, List.getElem?_eq_getElem hlt⟩
        obtain ⟨B, hA, hBb, hzc, _⟩ := HAP.out.zone k z hz
        obtain ⟨b, vs, hb, hv, hr⟩ := run_clear_row (P := Tryd.prog) wr 37 47 _ Tryd.underlying37 zero_era29 (by decide) (by decide) W1.heap.size W2.heap.size z.eras.length z.c z.A (HAP.out.eras z (List.mem_of_getElem? hz))
        have HAC := Lib.hid (HAP.out.cleared hv (HAP.out.nee z (List.mem_of_getElem? hz)))
        have HXC := Lib.hid (blk_cleared HX.out hv (Nat.le_refl _))
        have HBC := Lib.hid (below_setCells29 b hb vs 0 HBL.out)
        obtain ⟨B2, hA2, _, _, hth⟩ := HAC.out.zone k z hz
        obtain rfl : B = B2 := by
          rw [hA] at hA2
          injection hA2 with hA2; injection hA2
        obtain ⟨u0, hu⟩ := Option.isSome_iff_exists.1 (hth 0 (by decide)).1
        have hu2 : (wr.setCells b 0 vs).frozen? ⟨B, k * 2, none⟩ = false := (hth 0 (by decide)).2
        have hu1 : (wr.setCells b 0 vs).cell? ⟨B, k * 2, none⟩ = some u0 := hu
        have c1 := (HX.out.cell 1).trans rfl
        have d1 := (HXC.out.cell 1).trans rfl
        rw [hA] at c1 d1
        have HBB := Lib.hid hBb; have HLT := Lib.hid hlt
        clear hz hA hBb hb hv hA2 hth hu hlt
        go_wp2_with (simp only [hr])
        go_roundw
        case rel => exact ⟨k + 1, by have := HLT.out; omega, by go_num, HAC.out.name _, HXC.out.far (p := ⟨B, k * 2, none⟩) (by have := HBB.out; show W2.heap.size ≠ B; omega) _, HBC.out.setCell (p := ⟨B, k * 2, none⟩) HBB.out.1 _⟩
        case measure => have := HLT.out; simp [intOf]; omega
      · have hki : ¬ (k : Int) < (a.zones.length : Int) := by omega
        have q3 := HX3.out.below HBL.out HX3.out.lt; have q4 := HX4.out.below HBL.out HX4.out.lt
        have c0 := (q3.cell 0).trans rfl; have c1 := (q3.cell 1).trans rfl; have c2 := (q3.cell 2).trans rfl; have c3 := (q3.cell 3).trans rfl
        have d0 := (q4.cell 0).trans rfl; have d1 := (q4.cell 1).trans rfl; have d2 := (q4.cell 2).trans rfl; have d3 := (q4.cell 3).trans rfl
        clear q3 q4 hk
        go_wp2_with fail
        refine (same13_yes (HI3.out.same HI4.out) (big_few29 HF.out) wr (HG3.out.src.below HBL.out) (HG4.out.src.below HBL.out)).mono ?_
        rintro e W6 ⟨rfl, hc⟩
        have HW6 := Lib.hid ((HW1.out.trans (HBL.out.mono HW1.out.size)).trans (hc.mono (Nat.le_trans HW1.out.size HBL.out.size)))
        clear hc c0 c1 c2 c3 d0 d1 d2 d3
        go_wp2_with fail
        refine (works29_any _ (HV.out.below HW6.out)).mono ?_
        rintro e W7 ⟨rfl, hc⟩
        have HW7 := Lib.hid (HW6.out.trans (hc.mono HW6.out.size))
        clear hc
        go_wp2_with fail
        go_ret
        exact ⟨rfl, HW7.out⟩
  case hstep1 =>
    refine StepsOkZ.cons (StepOkZ.known rfl fun y W ex hex hS hd K' hK => ?_) ?_
    · skip
      clear hd
      have c0 := (hS.1.bx.cell 0).trans rfl; have c1 := (hS.1.bx.cell 1).trans rfl; have c2 := (hS.1.bx.cell 2).trans rfl; have c3 := (hS.1.bx.cell 3).trans rfl
      go_simp
      exact hK.out _ _ rfl (GS.refl _) hS
    refine StepsOkZ.cons (StepOkZ.other rfl fun y W ex hex hS hd K' hK => ?_) ?_
    · skip
      have e7 : y 7 = .agg #[.slice d.sA d.sets.length d.sc, .int .u8 d.zs, .int .u8 d.ls, .slice d.lA d.nums.length d.lc] := (hd 0 rfl).val rfl rfl
      clear hd
      go_simp
      refine (made25_any d W (HD.out.below hS.1.bel)).mono ?_
      rintro e W' ⟨t, rfl, hG, hI, hc⟩
      go_wp2_with fail
      exact hK.out _ _ _ (by first | rfl | (simp only [e7]; done) | (simp only [e7]; rfl)) (GS.below hc) ⟨hS.1.below hc, fun q => absurd (hex.2.2 6 q 1 (by decide)) (by rw [hex.1]; decide)⟩ (show ∃ t : SV, _ = Value.agg #[.slice t.rA t.rules.length t.rc, .slice t.zA t.zones.length t.zc, .slice t.kA t.links.length t.kc, .slice t.hA t.shifts.length t.hc] ∧ SrcG _ t ∧ Is25 d t from ⟨t, rfl, hG, hI⟩)
    refine StepsOkZ.cons (StepOkZ.known rfl fun y W ex hex hS hd K' hK => ?_) ?_
    · skip
      clear hd
      have c0 := (hS.1.bx.cell 0).trans rfl; have c1 := (hS.1.bx.cell 1).trans rfl; have c2 := (hS.1.bx.cell 2).trans rfl; have c3 := (hS.1.bx.cell 3).trans rfl
      go_simp
      exact hK.out _ _ rfl (GS.refl _) hS
    refine StepsOkZ.cons (StepOkZ.other rfl fun y W ex hex hS hd K' hK => ?_) ?_
    · skip
      have e9 : y 9 = .agg #[.slice d.sA d.sets.length d.sc, .int .u8 d.zs, .int .u8 d.ls, .slice d.lA d.nums.length d.lc] := (hd 2 rfl).val rfl rfl
      clear hd
      go_simp
      refine (made25_any d W (HD.out.below hS.1.bel)).mono ?_
      rintro e W' ⟨t, rfl, hG, hI, hc⟩
      go_wp2_with fail
      exact hK.out _ _ _ (by first | rfl | (simp only [e9]; done) | (simp only [e9]; rfl)) (GS.below hc) ⟨hS.1.below hc, fun q => absurd (hex.2.2 6 q 3 (by decide)) (by rw [hex.1]; decide)⟩ (show ∃ t : SV, _ = Value.agg #[.slice t.rA t.rules.length t.rc, .slice t.zA t.zones.length t.zc, .slice t.kA t.links.length t.kc, .slice t.hA t.shifts.length t.hc] ∧ SrcG _ t ∧ Is25 d t from ⟨t, rfl, hG, hI⟩)
    refine StepsOkZ.cons (StepOkZ.other rfl fun y W ex hex hS hd K' hK => ?_) ?_
    · skip
      clear hd
      go_simp
      exact hK.out _ _ _ rfl (GS.alloc _ _) ⟨hS.1.al3, fun q => absurd (hex.2.2 6 q 4 (by decide)) (by rw [hex.1]; decide)⟩ (show ∃ g : Nat, _ = Value.pointer (some ⟨g, 0, none⟩) from ⟨_, rfl⟩)
    refine StepsOkZ.cons (StepOkZ.other rfl fun y W ex hex hS hd K' hK => ?_) ?_
    · skip
      clear hd
      go_simp
      exact hK.out _ _ _ rfl (GS.alloc _ _) ⟨hS.1.al4, fun q => absurd (hex.2.2 6 q 5 (by decide)) (by rw [hex.1]; decide)⟩ (show ∃ g : Nat, _ = Value.pointer (some ⟨g, 0, none⟩) from ⟨_, rfl⟩)
    refine StepsOkZ.cons (StepOkZ.other rfl fun y W ex hex hS hd K' hK => ?_) ?_
    · skip
      have x1 : (fun (y : Nat → Value) (W : World) => ∃ t : SV, y 8 = Value.agg #[.slice t.rA t.rules.length t.rc, .slice t.zA t.zones.length t.zc, .slice t.kA t.links.length t.kc, .slice t.hA t.shifts.length t.hc] ∧ SrcG W t ∧ Is25 d t) y W := (hd 1 rfl).ex rfl
      have x4 : (fun (y : Nat → Value) (W : World) => ∃ g : Nat, y 3 = Value.pointer (some ⟨g, 0, none⟩)) y W := (hd 4 rfl).ex rfl
      clear hd
      obtain ⟨t, h1, hG, hI⟩ := x1
      obtain ⟨g, h2⟩ := x4
      obtain ⟨hlt, a, b, c, e, hb⟩ := hS.1.d3 g h2
      have k0 := (hb.cell 0).trans rfl; have f0 := hb.frozen 0
      have k1 := (hb.cell 1).trans rfl; have f1 := hb.frozen 1
      have k2 := (hb.cell 2).trans rfl; have f2 := hb.frozen 2
      have k3 := (hb.cell 3).trans rfl; have f3 := hb.frozen 3
      have HT := Lib.hid (GS.set4 hb (.slice t.rA t.rules.length t.rc) (.slice t.zA t.zones.length t.zc) (.slice t.kA t.links.length t.kc) (.slice t.hA t.shifts.length t.hc))
      have HA := Lib.hid (hS.1.set4 hlt hb (.slice t.rA t.rules.length t.rc) (.slice t.zA t.zones.length t.zc) (.slice t.kA t.links.length t.kc) (.slice t.hA t.shifts.length t.hc))
      clear hb
      go_simp
      exact hK.out undef _ _ (by first | rfl | (simp only [h1, h2]; done) | (simp only [h1, h2]; rfl)) HT.out.1 ⟨HA.out, fun _ => ⟨g, t, h2, h1, hG.step HT.out.1, hI, HT.out.2⟩⟩ trivial
    refine StepsOkZ.cons (StepOkZ.other rfl fun y W ex hex hS hd K' hK => ?_) ?_
    · skip
      have x3 : (fun (y : Nat → Value) (W : World) => ∃ t : SV, y 10 = Value.agg #[.slice t.rA t.rules.length t.rc, .slice t.zA t.zones.length t.zc, .slice t.kA t.links.length t.kc, .slice t.hA t.shifts.length t.hc] ∧ SrcG W t ∧ Is25 d t) y W := (hd 3 rfl).ex rfl
      have x5 : (fun (y : Nat → Value) (W : World) => ∃ g : Nat, y 4 = Value.pointer (some ⟨g, 0, none⟩)) y W := (hd 5 rfl).ex rfl
      clear hd
      obtain ⟨t, h1, hG, hI⟩ := x3
      obtain ⟨g, h2⟩ := x5
      obtain ⟨hlt, a, b, c, e, hb⟩ := hS.1.d4 g h2
      have k0 := (hb.cell 0).trans rfl; have f0 := hb.frozen 0
      have k1 := (hb.cell 1).trans rfl; have f1 := hb.frozen 1
      have k2 := (hb.cell 2).trans rfl; have f2 := hb.frozen 2
      have k3 := (hb.cell 3).trans rfl; have f3 := hb.frozen 3
      have HT := Lib.hid (GS.set4 hb (.slice t.rA t.rules.length t.rc) (.slice t.zA t.zones.length t.zc) (.slice t.kA t.links.length t.kc) (.slice t.hA t.shifts.length t.hc))
      have HA := Lib.hid (hS.1.set4 hlt hb (.slice t.rA t.rules.length t.rc) (.slice t.zA t.zones.length t.zc) (.slice t.kA t.links.length t.kc) (.slice t.hA t.shifts.length t.hc))
      obtain ⟨g3, t3, h3, h8, hG3, hI3, hb3⟩ := hS.2 (hex.2.1 6 (by decide))
      have HL3 := Lib.hid (show GS W ((((W.setCell ⟨g, 0, none⟩ (.slice t.rA t.rules.length t.rc)).setCell ⟨g, 1, none⟩ (.slice t.zA t.zones.length t.zc)).setCell ⟨g, 2, none⟩ (.slice t.kA t.links.length t.kc)).setCell ⟨g, 3, none⟩ (.slice t.hA t.shifts.length t.hc)) → ∃ (g' : Nat) (t' : SV), y 3 = Value.pointer (some ⟨g', 0, none⟩) ∧ y 8 = Value.agg #[.slice t'.rA t'.rules.length t'.rc, .slice t'.zA t'.zones.length t'.zc, .slice t'.kA t'.links.length t'.kc, .slice t'.hA t'.shifts.length t'.hc] ∧ SrcG ((((W.setCell ⟨g, 0, none⟩ (.slice t.rA t.rules.length t.rc)).setCell ⟨g, 1, none⟩ (.slice t.zA t.zones.length t.zc)).setCell ⟨g, 2, none⟩ (.slice t.kA t.links.length t.kc)).setCell ⟨g, 3, none⟩ (.slice t.hA t.shifts.length t.hc)) t' ∧ Is25 d t' ∧ Blk ((((W.setCell ⟨g, 0, none⟩ (.slice t.rA t.rules.length t.rc)).setCell ⟨g, 1, none⟩ (.slice t.zA t.zones.length t.zc)).setCell ⟨g, 2, none⟩ (.slice t.kA t.links.length t.kc)).setCell ⟨g, 3, none⟩ (.slice t.hA t.shifts.length t.hc)) g' 32 #[.slice t'.rA t'.rules.length t'.rc, .slice t'.zA t'.zones.length t'.zc, .slice t'.kA t'.links.length t'.kc, .slice t'.hA t'.shifts.length t'.hc] from fun hg => ⟨g3, t3, h3, h8, hG3.step hg, hI3, blk_set4 hb3 (fun q => hS.1.ne g3 h3 (by rw [h2, q])) _ _ _ _⟩)
      clear hb hb3
      go_simp
      exact hK.out undef _ _ (by first | rfl | (simp only [h1, h2, h3, h8]; done) | (simp only [h1, h2, h3, h8]; rfl)) HT.out.1 ⟨HA.out, fun _ => HL3.out HT.out.1⟩ (show ∃ (g : Nat) (t : SV), y 4 = Value.pointer (some ⟨g, 0, none⟩) ∧ y 10 = Value.agg #[.slice t.rA t.rules.length t.rc, .slice t.zA t.zones.length t.zc, .slice t.kA t.links.length t.kc, .slice t.hA t.shifts.length t.hc] ∧ SrcG _ t ∧ Is25 d t ∧ Blk _ g 32 #[.slice t.rA t.rules.length t.rc, .slice t.zA t.zones.length t.zc, .slice t.kA t.links.length t.kc, .slice t.hA t.shifts.length t.hc] from ⟨g, t, h2, h1, hG.step HT.out.1, hI, HT.out.2⟩)
    exact StepsOkZ.nil
end Go.Proofs.YtlideagcmhlkeaaDoor
