/- Texts of one proof, one behind the other: Fmt21f; Rules; Slices; Src; App; Cs; CopyB; Eqs; Sam14; Sam14b; Sam14c; CopyS; Plain29; Num20f; Num20g; Num20e. -/
import Derived.Test.YtlideagcmhlkeaaDoorT2
import Derived.Deep.RegionHeld3
import Derived.Test.YtlideagcmhlkeaaDoorChecked
import Derived.Deep.Slices
import Derived.Deep.Fields
import Derived.ChangeSame
import Derived.WideShapes
import Derived.Deep.AppendLies
import Derived.Laws.IdiomStrings
import Derived.Laws.OwnMore
import Derived.Laws.StructEq
import Derived.BigRegion
import Derived.IntWalk
import Derived.Deep.DeepCutAuto
import Derived.BigQuiet
import Derived.ArgAppend

/- The walks of the abbreviations of FORMATs (chapter 21): format.Abbr and the reference's. -/
namespace Go.Proofs.YtlideagcmhlkeaaDoor
open Go.RowKit Go.Lib
set_option linter.unusedVariables false

theorem two_kind {l : List UInt8} (h : P21.two l = true) : P21.kind l = 2 ∨ P21.kind l = 5 := by
  unfold P21.two at h
  simp only [Bool.and_eq_true, Bool.or_eq_true, decide_eq_true_eq] at h
  exact h.2
theorem parts_of {l : List UInt8} : P21.parts l = if P21.two l = true then ((P21.slash l).1, (P21.slash l).2.1, true) else ([], [], false) := rfl
theorem cat3_run {P : Program} (a b c : List UInt8) (h : a.length + b.length + c.length ≤ 2200000) : (∀ W, (Op.stringOp .add (str a) (str b)).run P W = .ok (.string (str (a ++ b))) W) ∧ ∀ W, (Op.stringOp .add (str (a ++ b)) (str c)).run P W = .ok (.string (str (a ++ b ++ c))) W :=
  ⟨cat_run a b (by omega), cat_run (a ++ b) c (by rw [List.length_append]; omega)⟩
end Go.Proofs.YtlideagcmhlkeaaDoor

/- Slices of rules as the walks read them: the saves of the rules. No function of the program. -/
namespace Go.Proofs.YtlideagcmhlkeaaDoor
open Go.RowKit
set_option linter.unusedVariables false

/-- a rule's cells -/
structure RV where
  name : ByteArray
  frm : Int
  til : Int
  month : Int
  dk : Int
  dw : Int
  dd : Int
  asec : Int
  abase : Int
  save : Int
  letter : ByteArray
def RV.cells (r : RV) : List Value := [.string r.name, .int .i64 r.frm, .int .i64 r.til, .int .i64 r.month, .int .i64 r.dk, .int .i64 r.dw, .int .i64 r.dd, .int .i64 r.asec, .int .i64 r.abase, .int .i64 r.save, .string r.letter]
/-- the slice holds these rules -/
def RulesIn (w : World) (A : Option Addr) (L : List RV) : Prop :=
  ∀ k r, L[k]? = some r → ∃ b o, A = some ⟨b, o, none⟩ ∧ b < w.heap.size ∧ ∀ j u, r.cells[j]? = some u → w.cell? ⟨b, o + k * 11 + j, none⟩ = some u
theorem RulesIn.below {w w' : World} {A : Option Addr} {L : List RV} (h : RulesIn w A L) (hb : Below w.heap.size w w') : RulesIn w' A L := by
  intro k r hr
  obtain ⟨b, o, hA, hlt, hc⟩ := h k r hr
  exact ⟨b, o, hA, Nat.lt_of_lt_of_le hlt hb.size, fun j u hu => (hb.cell (p := ⟨b, o + k * 11 + j, none⟩) hlt).trans (hc j u hu)⟩
theorem RulesIn.alloc {w : World} {A : Option Addr} {L : List RV} (h : RulesIn w A L) (ob : Obj) : RulesIn (w.alloc ob) A L := h.below ((Below.refl _ _).alloc (Nat.le_refl _) ob)
theorem RulesIn.nil (w : World) (A : Option Addr) : RulesIn w A [] := fun k r hr => by simp at hr
theorem RulesIn.drewN {w : World} {A : Option Addr} {L : List RV} (h : RulesIn w A L) (n : Nat) : RulesIn (w.drewN n) A L := h
/-- the eleven cells of the rule at a place -/
theorem RulesIn.get {w : World} {A : Option Addr} {L : List RV} (h : RulesIn w A L) (k : Nat) (r : RV) (hr : L[k]? = some r) :
    ∃ b o, A = some ⟨b, o, none⟩ ∧ b < w.heap.size ∧ w.cell? ⟨b, o + k * 11, none⟩ = some (.string r.name) ∧ w.cell? ⟨b, o + k * 11 + 1, none⟩ = some (.int .i64 r.frm) ∧ w.cell? ⟨b, o + k * 11 + 2, none⟩ = some (.int .i64 r.til) ∧
      w.cell? ⟨b, o + k * 11 + 3, none⟩ = some (.int .i64 r.month) ∧ w.cell? ⟨b, o + k * 11 + 4, none⟩ = some (.int .i64 r.dk) ∧ w.cell? ⟨b, o + k * 11 + 5, none⟩ = some (.int .i64 r.dw) ∧ w.cell? ⟨b, o + k * 11 + 6, none⟩ = some (.int .i64 r.dd) ∧
      w.cell? ⟨b, o + k * 11 + 7, none⟩ = some (.int .i64 r.asec) ∧ w.cell? ⟨b, o + k * 11 + 8, none⟩ = some (.int .i64 r.abase) ∧ w.cell? ⟨b, o + k * 11 + 9, none⟩ = some (.int .i64 r.save) ∧ w.cell? ⟨b, o + k * 11 + 10, none⟩ = some (.string r.letter) := by
  obtain ⟨b, o, hA, hlt, hc⟩ := h k r hr
  exact ⟨b, o, hA, hlt, hc 0 _ rfl, hc 1 _ rfl, hc 2 _ rfl, hc 3 _ rfl, hc 4 _ rfl, hc 5 _ rfl, hc 6 _ rfl, hc 7 _ rfl, hc 8 _ rfl, hc 9 _ rfl, hc 10 _ rfl⟩
end Go.Proofs.YtlideagcmhlkeaaDoor

/- A slice that comes in, read as a list of elements of some cells each (for the cards). No function of the program. -/
namespace Go.Proofs.YtlideagcmhlkeaaDoor
open Go.RowKit Go.ChangeShapes Go.WideShapes
set_option linter.unusedVariables false

/-- the slice holds these elements, of m cells each -/
def CellsIn {α : Type} (m : Nat) (f : α → List Value) (w : World) (A : Option Addr) (L : List α) : Prop :=
  ∀ k r, L[k]? = some r → ∃ b o, A = some ⟨b, o, none⟩ ∧ b < w.heap.size ∧ ∀ j u, (f r)[j]? = some u → w.cell? ⟨b, o + k * m + j, none⟩ = some u
/-- a byte's cell -/
def u8Cell (n : Int) : List Value := [.int .u8 n]
theorem CellsIn.below {α : Type} {m : Nat} {f : α → List Value} {w w' : World} {A : Option Addr} {L : List α} (h : CellsIn m f w A L) (hb : Below w.heap.size w w') : CellsIn m f w' A L := by
  intro k r hr
  obtain ⟨b, o, hA, hlt, hc⟩ := h k r hr
  exact ⟨b, o, hA, Nat.lt_of_lt_of_le hlt hb.size, fun j u hu => (hb.cell (p := ⟨b, o + k * m + j, none⟩) hlt).trans (hc j u hu)⟩
theorem CellsIn.alloc {α : Type} {m : Nat} {f : α → List Value} {w : World} {A : Option Addr} {L : List α} (h : CellsIn m f w A L) (ob : Obj) : CellsIn m f (w.alloc ob) A L := h.below ((Below.refl _ _).alloc (Nat.le_refl _) ob)
theorem CellsIn.nil {α : Type} {m : Nat} {f : α → List Value} (w : World) (A : Option Addr) : CellsIn m f w A [] := fun k r hr => by simp at hr
theorem CellsIn.drewN {α : Type} {m : Nat} {f : α → List Value} {w : World} {A : Option Addr} {L : List α} (h : CellsIn m f w A L) (n : Nat) : CellsIn m f (w.drewN n) A L := h
section
variable {H : Type} {enc : TypeId × Value → H} {w : World} {base : Nat} {sp : Nat → Bool} {held : Bool}
theorem add_plain (b o : Nat) (k j : Nat) : ((⟨b, o, none⟩ : Addr).add k).add j = ⟨b, o + k + j, none⟩ := by
  unfold Addr.add
  by_cases hk : k = 0 <;> by_cases hj : j = 0 <;> simp [hk, hj]
/-- a slice that comes in, on the list of its cells (a field of a struct) -/
theorem open_cells {P : Program} {α : Type} {t e : TypeId} {m : Nat} {f : α → List Value} {Good : α → Prop} {fuel : Nat} {cs : List Value} {x : DataW H × List MemPlace} (ht : P.underlying t = some (.slice e)) (hC : P.cellsOf e = m) (h0 : 0 < m)
    (hopen : ∀ (fuel : Nat) (cs : List Value) (x : DataW H × List MemPlace), cs.length = m → DataW.trod enc P w base sp held fuel e cs = some x → ∃ r : α, cs = f r ∧ Good r)
    (hf : DataW.trod enc P w base sp held fuel t cs = some x) :
    ∃ (A : Option Addr) (c : Nat) (L : List α), cs = [.slice A L.length c] ∧ L.length ≤ maxLen ∧ CellsIn m f w A L ∧ ∀ r ∈ L, Good r := by
  rcases Go.Deep.open_slice ht hf with ⟨h0', _⟩ | ⟨a, len, cap, m', n, D, Pl, hcs, hb, hl, hm, hmm, hx, hi⟩
  · exact ⟨none, 0, [], h0', Nat.zero_le _, CellsIn.nil _ _, fun r hr => by simp at hr⟩
  · have hlm : len ≤ m' := by rw [hmm]; split <;> omega
    have key : ∀ i, i < len → ∃ r : α, Good r ∧ (f r).length = m ∧ ∀ j u, (f r)[j]? = some u → w.cell? ((a.add (i * m)).add j) = some u := by
      intro i hil
      obtain ⟨cs', hc, htt⟩ := hi i (by omega)
      rw [hC] at hc
      obtain ⟨_, hcl, hat⟩ := World.cells?_some hc
      obtain ⟨r, hr, hw⟩ := hopen _ _ _ hcl htt
      refine ⟨r, hw, by rw [← hr, hcl], fun j u hu => ?_⟩
      have hj : j < m := by rw [← hcl, hr]; exact (List.getElem?_eq_some_iff.mp hu).1
      rw [hat j hj, hr]; exact hu
    have key2 : ∃ L : List α, L.length = len ∧ ∀ i r, L[i]? = some r → Good r ∧ (f r).length = m ∧ ∀ j u, (f r)[j]? = some u → w.cell? ((a.add (i * m)).add j) = some u := by
      refine ⟨List.ofFn (fun i : Fin len => Classical.choose (key i.1 i.2)), by simp, fun i r hr => ?_⟩
      have hil : i < len := by have := (List.getElem?_eq_some_iff.mp hr).1; simpa using this
      rw [List.getElem?_ofFn, dif_pos hil] at hr
      injection hr with hr
      rw [← hr]
      exact Classical.choose_spec (key i hil)
    obtain ⟨L, hLl, hL⟩ := key2
    refine ⟨some a, cap, L, by rw [hLl]; exact hcs, by rw [hLl]; omega, fun k r hr => ?_, fun r hr => ?_⟩
    · have h00 : 0 < L.length := by have := (List.getElem?_eq_some_iff.mp hr).1; omega
      have hs : a.spot = none := by
        obtain ⟨_, hl0, q⟩ := hL 0 _ (List.getElem?_eq_getElem h00)
        have q0 := q 0 _ (List.getElem?_eq_getElem (by omega))
        rw [Nat.zero_mul] at q0
        exact World.cell?_spot (by simpa [Addr.add] using q0)
      obtain ⟨_, hl1, hk⟩ := hL k r hr
      obtain ⟨b, o, s⟩ := a
      simp only at hs
      subst hs
      refine ⟨b, o, rfl, ?_, fun j u hu => ?_⟩
      · have q := hk 0 _ (List.getElem?_eq_getElem (by omega))
        rw [add_plain] at q
        unfold World.cell? at q
        rcases Nat.lt_or_ge b w.heap.size with q' | q'
        · exact q'
        · rw [Array.getElem?_eq_none q'] at q; cases q
      · have := hk j u hu
        rwa [add_plain] at this
    · obtain ⟨k, hk⟩ := List.mem_iff_getElem?.1 hr
      exact (hL k r hk).1
end
end Go.Proofs.YtlideagcmhlkeaaDoor

/- Sources as values: rules, eras, zones, links; where their cells lie. No function of the program. -/
namespace Go.Proofs.YtlideagcmhlkeaaDoor
open Go.RowKit
set_option linter.unusedVariables false

/-- an era's cells -/
structure EV where
  off : Int
  kind : Int
  save : Int
  set : ByteArray
  fmt : ByteArray
  ui : Bool
  uy : Int
  um : Int
  dk : Int
  dw : Int
  dd : Int
  asec : Int
  ab : Int
def EV.cells (e : EV) : List Value := [.int .i64 e.off, .int .i64 e.kind, .int .i64 e.save, .string e.set, .string e.fmt, .bool e.ui, .int .i64 e.uy, .int .i64 e.um, .int .i64 e.dk, .int .i64 e.dw, .int .i64 e.dd, .int .i64 e.asec, .int .i64 e.ab]
/-- a link's cells -/
structure KV where
  target : ByteArray
  name : ByteArray
def KV.cells (k : KV) : List Value := [.string k.target, .string k.name]
/-- a zone's cells, and its eras -/
structure ZV where
  name : ByteArray
  A : Option Addr
  c : Nat
  eras : List EV
def ZV.cells (z : ZV) : List Value := [.string z.name, .slice z.A z.eras.length z.c]
/-- a source's cells, and its parts -/
structure SV where
  rA : Option Addr
  rc : Nat
  rules : List RV
  zA : Option Addr
  zc : Nat
  zones : List ZV
  kA : Option Addr
  kc : Nat
  links : List KV
  hA : Option Addr
  hc : Nat
  shifts : List ByteArray
def SV.agg (s : SV) : Array Value := #[.slice s.rA s.rules.length s.rc, .slice s.zA s.zones.length s.zc, .slice s.kA s.links.length s.kc, .slice s.hA s.shifts.length s.hc]
structure SrcIn (w : World) (s : SV) : Prop where
  rules : CellsIn 11 RV.cells w s.rA s.rules
  zones : CellsIn 2 ZV.cells w s.zA s.zones
  links : CellsIn 2 KV.cells w s.kA s.links
  shifts : CellsIn 1 (fun b : ByteArray => [Value.string b]) w s.hA s.shifts
  eras : ∀ z ∈ s.zones, CellsIn 13 EV.cells w z.A z.eras
theorem SrcIn.below {w w' : World} {s : SV} (h : SrcIn w s) (hb : Below w.heap.size w w') : SrcIn w' s :=
  ⟨h.rules.below hb, h.zones.below hb, h.links.below hb, h.shifts.below hb, fun z hz => (h.eras z hz).below hb⟩
/-- the cells of the element at a place -/
theorem CellsIn.at_ {α : Type} {m : Nat} {f : α → List Value} {w : World} {A : Option Addr} {L : List α} (h : CellsIn m f w A L) (k : Nat) (r : α) (hr : L[k]? = some r) :
    ∃ b o, A = some ⟨b, o, none⟩ ∧ b < w.heap.size ∧ ∀ j u, (f r)[j]? = some u → w.cell? ⟨b, o + k * m + j, none⟩ = some u := h k r hr
end Go.Proofs.YtlideagcmhlkeaaDoor

/- append(nil, x...): a copy in a row of its own, whatever slice x is. No function of the program. -/
namespace Go.Proofs.YtlideagcmhlkeaaDoor
open Go.RowKit
set_option linter.unusedVariables false

section
variable {P : Program} {w : World}
theorem row_is {base n size : Nat} {e : TypeId} {v : Value} {xs : List Value} (h : w.ownsRow base e size v n xs) : ∃ A c, v = .slice A n c := by
  rcases h.2 with ⟨rfl, rfl⟩ | ⟨g, cap, cur, rfl, _⟩
  · exact ⟨_, _, rfl⟩
  · exact ⟨_, _, rfl⟩
/-- append([]T{}, x...): the base is a literal of no elements -/
theorem run_append_lit0 (t ty e : TypeId) (i : TypeInfo) (ht : P.underlying t = some (.slice e)) (hi : P.info? e = some i) (A : Option Addr) (c B : Nat) :
    (Builtin.append_ #[t, t] ty #[.slice (some ⟨B, 0, none⟩) 0 0, .slice A 0 c]).run P w = .ok (.slice (some ⟨B, 0, none⟩) 0 0) w := by
  cases A with
  | none => simp [Builtin.append_, run_underlying ht, sizeOf, typeInfo, hi, Builtin.lenOf, Builtin.firstCells, loadCells, loadCellsFrom, storeCells]
  | some a => simp [Builtin.append_, run_underlying ht, sizeOf, typeInfo, hi, Builtin.lenOf, Builtin.firstCells, loadCells, loadCellsFrom, storeCells]
theorem run_append_lit (base : Nat) (t ty e : TypeId) (i : TypeInfo) (z : Value) (size bytes B : Nat) (ht : P.underlying t = some (.slice e)) (hi : P.info? e = some i) (hz : i.zero = some z)
    (hsize : i.size = size) (hby : i.bytes = bytes) (hzs : z.cells.size = size) (hsz : 0 < size) (hown : w.ownsRow base e size (.slice (some ⟨B, 0, none⟩) 0 0) 0 [])
    (A : Option Addr) (m c : Nat) (news : List Value) (hl : news.length = m * size) (hnews : ∀ j u, news[j]? = some u → ∃ b of_, A = some ⟨b, of_, none⟩ ∧ w.cell? ⟨b, of_ + j, none⟩ = some u) (h1 : ∀ u ∈ news, u.oneCell' = true)
    (h63 : m ≤ maxLen) (hbytes : m * bytes ≤ 140737488355328) (hbase : base ≤ w.heap.size) :
    ∃ A' c' w', (Builtin.append_ #[t, t] ty #[.slice (some ⟨B, 0, none⟩) 0 0, .slice A m c]).run P w = .ok (.slice A' m c') w' ∧ w'.ownsRow base e size (.slice A' m c') m news ∧ w.grownBy w' none := by
  by_cases hm : m = 0
  · subst hm
    have hn : news = [] := List.eq_nil_of_length_eq_zero (by rw [hl]; exact Nat.zero_mul _)
    subst hn
    exact ⟨_, _, w, run_append_lit0 (P := P) (w := w) t ty e i ht hi A c B, hown, World.grownBy.refl w _⟩
  · subst hsize
    subst hby
    have hpos : 0 < news.length := by rw [hl]; exact Nat.mul_pos (by omega) hsz
    obtain ⟨b, of_, rfl, _⟩ := hnews 0 _ (List.getElem?_eq_getElem hpos)
    have hr := run_append_grow (P := P) w t ty e i z ht hi hz ⟨B, 0, none⟩ 0 0 [] (by simp) (fun j u hu => by simp at hu) ⟨b, of_, none⟩ m c news hl (fun j u hu => by
      obtain ⟨b', o', e', hc⟩ := hnews j u hu
      injection e' with e'
      injection e' with e1 e2
      subst e1 e2
      rw [show (⟨b, of_, none⟩ : Addr).add j = ⟨b, of_ + j, none⟩ by unfold Addr.add; split <;> simp_all]
      exact hc) (by omega) (by simp only [maxLen] at h63; omega) (growslice_fits (by omega) (by rw [Nat.zero_add]; exact hbytes))
    have hge := grownCap_ge w (0 + m) 0 e
    have hcm : grownCap w (0 + m) 0 e ≤ maxLen := grownCap_le_maxLen w (0 + m) 0 e (by omega)
    refine ⟨_, _, _, by rw [hr, Nat.zero_add], ⟨hl, .inr ⟨w.heap.size, _, _, by first | rfl | simp, hbase, heap_alloc_new w.drew _, by rw [Nat.zero_add] at hge; exact hge, by rw [Nat.zero_add] at hcm; exact hcm, ?_, ?_⟩⟩, ⟨rfl, rfl, rfl, by simp, fun k hk _ => heap_alloc_old w.drew _ hk⟩⟩
    · rw [Nat.zero_add] at hge
      simp only [Array.size_append, List.size_toArray, size_zeroCells, hzs, hl, List.length_nil, Nat.zero_add, ← Nat.add_mul]
      congr 1
      omega
    · rw [← hl]
      simp only [Array.toList_append, List.nil_append]
      exact List.take_left
theorem wp_append_lit {o : Oper} {a : Act} {K : Act → World → Prop} {Q : Exit → Act → World → Prop} (s x : Operand) (t : TypeId)
    (ho : o.op = .call { callee := .builtin .append, args := #[s, x], argTypes := #[t, t] })
    (base : Nat) (e : TypeId) (i : TypeInfo) (z : Value) (size bytes B : Nat) (ht : P.underlying t = some (.slice e)) (hi : P.info? e = some i) (hz : i.zero = some z)
    (hsize : i.size = size) (hby : i.bytes = bytes) (hzs : z.cells.size = size) (hsz : 0 < size) (hs : a.eval s = .slice (some ⟨B, 0, none⟩) 0 0) (hown : w.ownsRow base e size (.slice (some ⟨B, 0, none⟩) 0 0) 0 [])
    (A : Option Addr) (m c : Nat) (news : List Value) (hx : a.eval x = .slice A m c) (hl : news.length = m * size) (hnews : ∀ j u, news[j]? = some u → ∃ b of_, A = some ⟨b, of_, none⟩ ∧ w.cell? ⟨b, of_ + j, none⟩ = some u) (h1 : ∀ u ∈ news, u.oneCell' = true)
    (h63 : m ≤ maxLen) (hbytes : m * bytes ≤ 140737488355328) (hbase : base ≤ w.heap.size)
    (h : ∀ A' c' w', w'.ownsRow base e size (.slice A' m c') m news → w.grownBy w' none → K (a.put o.dst (.slice A' m c')) w') : o.wp P a w K Q := by
  obtain ⟨A', c', w', hrun, h2, h3⟩ := run_append_lit (P := P) (w := w) base t o.type e i z size bytes B ht hi hz hsize hby hzs hsz hown A m c news hl hnews h1 h63 hbytes hbase
  have q := h A' c' w' h2 h3
  unfold Oper.wp
  simp [execOp, ho, resolve, invoke, builtin, hs, hx, hrun, Result.andThen]
  exact q
theorem wpList_append_lit {ops : Array Oper} {rest : List Oper} {o : Oper} {a : Act} {Q : Exit → Act → World → Prop} (hgd : o.guard = none) (s x : Operand) (t : TypeId)
    (ho : o.op = .call { callee := .builtin .append, args := #[s, x], argTypes := #[t, t] })
    (base : Nat) (e : TypeId) (i : TypeInfo) (z : Value) (size bytes B : Nat) (ht : P.underlying t = some (.slice e)) (hi : P.info? e = some i) (hz : i.zero = some z)
    (hsize : i.size = size) (hby : i.bytes = bytes) (hzs : z.cells.size = size) (hsz : 0 < size) (hs : a.eval s = .slice (some ⟨B, 0, none⟩) 0 0) (hown : w.ownsRow base e size (.slice (some ⟨B, 0, none⟩) 0 0) 0 [])
    (A : Option Addr) (m c : Nat) (news : List Value) (hx : a.eval x = .slice A m c) (hl : news.length = m * size) (hnews : ∀ j u, news[j]? = some u → ∃ b of_, A = some ⟨b, of_, none⟩ ∧ w.cell? ⟨b, of_ + j, none⟩ = some u) (h1 : ∀ u ∈ news, u.oneCell' = true)
    (h63 : m ≤ maxLen) (hbytes : m * bytes ≤ 140737488355328) (hbase : base ≤ w.heap.size)
    (h : ∀ A' c' w', w'.ownsRow base e size (.slice A' m c') m news → w.grownBy w' none → wpList P ops Q rest (a.put o.dst (.slice A' m c')) w') : wpList P ops Q (o :: rest) a w :=
  wpList_plain hgd fun _ hK => wp_append_lit s x t ho base e i z size bytes B ht hi hz hsize hby hzs hsz hs hown A m c news hx hl hnews h1 h63 hbytes hbase fun A' c' w' h2 h3 => hK _ _ (h A' c' w' h2 h3)
/-- an append to a row of the call's own, in a region that draws its order -/
theorem step_append_own {ops : Array Oper} {o : Oper} {a : Act} {K : Act → World → Prop} {Q : Exit → Act → World → Prop} {E : Prop} (hgd : o.guard = none) (s x : Operand) (t : TypeId)
    (ho : o.op = .call { callee := .builtin .append, args := #[s, x], argTypes := #[t, t] })
    (base : Nat) (e : TypeId) (i : TypeInfo) (z : Value) (size bytes : Nat) (ht : P.underlying t = some (.slice e)) (hi : P.info? e = some i) (hz : i.zero = some z)
    (hsize : i.size = size) (hby : i.bytes = bytes) (hzs : z.cells.size = size) (hsz : 0 < size)
    (v : Value) (n : Nat) (xs : List Value) (hs : a.eval s = v) (hown : w.ownsRow base e size v n xs)
    (ad : Addr) (m c : Nat) (news : List Value) (hx : a.eval x = .slice (some ad) m c) (hl : news.length = m * size) (hnews : ∀ j u, news[j]? = some u → w.cell? (ad.add j) = some u) (h1 : ∀ u ∈ news, u.oneCell' = true)
    (h63 : n + m ≤ maxLen) (hbytes : (n + m) * bytes ≤ 140737488355328) (hbase : base ≤ w.heap.size)
    (h : ∀ v' w', w'.ownsRow base e size v' (n + m) (xs ++ news) → w.grownBy w' v.ownBlock → K (a.put o.dst v') w') :
    if Region.wanted o (yielded ops a.tmps) = true then Oper.wp P o a w K Q else E := by
  have hw : Region.wanted o (yielded ops a.tmps) = true := by simp [Region.wanted, hgd]
  rw [if_pos hw]
  exact wp_append_own w s x t ho base e i z size bytes ht hi hz hsize hby hzs hsz v n xs hs hown ad m c news hx hl hnews h1 h63 hbytes hbase fun v' w' h2 h3 _ => h v' w' h2 h3
end
end Go.Proofs.YtlideagcmhlkeaaDoor

/- Blocks whose first cells are known, written in place; '[]byte(s)'. No function of the program. -/
namespace Go.Proofs.YtlideagcmhlkeaaDoor
open Go.RowKit
set_option linter.unusedVariables false

/-- the first cells of block g are these, none of them frozen -/
def Cs (W : World) (g : Nat) (xs : List Value) : Prop :=
  ∃ cur t fz, W.heap[g]? = some (.cells cur t fz) ∧ (∀ j, j < xs.length → cur[j]? = xs[j]?) ∧ ∀ j, j < xs.length → ¬ (fz.1 ≤ j ∧ j < fz.2)
section
variable {W W' : World} {g : Nat} {xs : List Value}
theorem Cs.lt (h : Cs W g xs) : g < W.heap.size := by
  obtain ⟨cur, t, fz, h1, _⟩ := h
  rcases Nat.lt_or_ge g W.heap.size with hlt | hge
  · exact hlt
  · rw [Array.getElem?_eq_none hge] at h1; cases h1
theorem Cs.cell (h : Cs W g xs) (j : Nat) (u : Value) (hu : xs[j]? = some u) : W.cell? ⟨g, j, none⟩ = some u := by
  obtain ⟨cur, t, fz, h1, h2, _⟩ := h
  rw [cell_of_row W g j cur t fz h1, h2 j (List.getElem?_eq_some_iff.mp hu).1, hu]
theorem Cs.frozen (h : Cs W g xs) (j : Nat) (hj : j < xs.length) : W.frozen? ⟨g, j, none⟩ = false := by
  obtain ⟨cur, t, fz, h1, _, h3⟩ := h
  have := h3 j hj
  simp only [World.frozen?, h1]
  simpa using this
theorem Cs.below {B : Nat} (h : Cs W g xs) (hb : Below B W W') (hg : g < B) : Cs W' g xs := by
  obtain ⟨cur, t, fz, h1, h2⟩ := h
  exact ⟨cur, t, fz, (hb.block g hg).trans h1, h2⟩
theorem Cs.belowS (h : Cs W g xs) (hb : Below W.heap.size W W') : Cs W' g xs := h.below hb h.lt
theorem Cs.alloc (h : Cs W g xs) (o : Obj) : Cs (W.alloc o) g xs := h.belowS ((Below.refl _ _).alloc (Nat.le_refl _) o)
theorem Cs.drewN (h : Cs W g xs) (n : Nat) : Cs (W.drewN n) g xs := h
theorem Cs.set_ (h : Cs W g xs) (i : Nat) (u : Value) : Cs (W.setCell ⟨g, i, none⟩ u) g (xs.set i u) := by
  obtain ⟨cur, t, fz, h1, h2, h3⟩ := h
  refine ⟨cur.setIfInBounds i u, t, fz, by simp [World.setCell, Array.getElem?_modify, h1], fun j hj => ?_, fun j hj => h3 j (by rwa [List.length_set] at hj)⟩
  rw [List.length_set] at hj
  have q := h2 j hj
  rw [Array.getElem?_setIfInBounds, List.getElem?_set]
  by_cases e : i = j
  · subst e
    have hc : i < cur.size := by
      rw [List.getElem?_eq_getElem hj] at q
      exact (Array.getElem?_eq_some_iff.1 q).1
    simp [hc, hj]
  · simp [e, q]
theorem Cs.far (h : Cs W g xs) {p : Addr} (hp : g ≠ p.block) (u : Value) : Cs (W.setCell p u) g xs := by
  obtain ⟨cur, t, fz, h1, h2⟩ := h
  exact ⟨cur, t, fz, (Below.heap_setCell W p u g hp).trans h1, h2⟩
theorem Cs.same (h : Cs W g xs) {ys : List Value} (e : xs = ys) : Cs W g ys := e ▸ h
end
theorem Cs.new (W : World) (t : TypeId) (cs : Array Value) : Cs (W.alloc (.cells cs t)) W.heap.size cs.toList :=
  ⟨cs, t, (0, 0), heap_alloc_new W _, fun j hj => by rw [Array.getElem?_toList], fun j hj => by simp⟩
/-- the first cells of block g are these (to be read) -/
def Rd (W : World) (g : Nat) (xs : List Value) : Prop := ∃ cur t fz, W.heap[g]? = some (.cells cur t fz) ∧ ∀ j, j < xs.length → cur[j]? = xs[j]?
theorem Rd.lt {W : World} {g : Nat} {xs : List Value} (h : Rd W g xs) : g < W.heap.size := by
  obtain ⟨cur, t, fz, h1, _⟩ := h
  rcases Nat.lt_or_ge g W.heap.size with hlt | hge
  · exact hlt
  · rw [Array.getElem?_eq_none hge] at h1; cases h1
theorem Rd.cell {W : World} {g : Nat} {xs : List Value} (h : Rd W g xs) (j : Nat) (u : Value) (hu : xs[j]? = some u) : W.cell? ⟨g, j, none⟩ = some u := by
  obtain ⟨cur, t, fz, h1, h2⟩ := h
  rw [cell_of_row W g j cur t fz h1, h2 j (List.getElem?_eq_some_iff.mp hu).1, hu]
theorem Rd.below {W W' : World} {g B : Nat} {xs : List Value} (h : Rd W g xs) (hb : Below B W W') (hg : g < B) : Rd W' g xs := by
  obtain ⟨cur, t, fz, h1, h2⟩ := h
  exact ⟨cur, t, fz, (hb.block g hg).trans h1, h2⟩
theorem Rd.belowS {W W' : World} {g : Nat} {xs : List Value} (h : Rd W g xs) (hb : Below W.heap.size W W') : Rd W' g xs := h.below hb h.lt
theorem Rd.alloc {W : World} {g : Nat} {xs : List Value} (h : Rd W g xs) (o : Obj) : Rd (W.alloc o) g xs := h.belowS ((Below.refl _ _).alloc (Nat.le_refl _) o)
end Go.Proofs.YtlideagcmhlkeaaDoor

/- Copies of sources: rows of their own; what a store leaves. No function of the program. -/
namespace Go.Proofs.YtlideagcmhlkeaaDoor
open Go.RowKit
set_option linter.unusedVariables false
set_option linter.unusedSimpArgs false

theorem infoRuleC : (Tryd.prog.info? 83).map (fun i => (i.zero, i.size, i.bytes)) = some (some (.agg #[.string ⟨#[]⟩, .int .i64 0, .int .i64 0, .int .i64 0, .int .i64 0, .int .i64 0, .int .i64 0, .int .i64 0, .int .i64 0, .int .i64 0, .string ⟨#[]⟩]), 11, 104) := by kernel_rfl
theorem infoEra : (Tryd.prog.info? 47).map (fun i => (i.zero, i.size, i.bytes)) = some (some (.agg #[.int .i64 0, .int .i64 0, .int .i64 0, .string ⟨#[]⟩, .string ⟨#[]⟩, .bool false, .int .i64 0, .int .i64 0, .int .i64 0, .int .i64 0, .int .i64 0, .int .i64 0, .int .i64 0]), 13, 120) := by kernel_rfl
theorem infoZone : (Tryd.prog.info? 39).map (fun i => (i.zero, i.size, i.bytes)) = some (some (.agg #[.string ⟨#[]⟩, .slice none 0 0]), 2, 40) := by kernel_rfl
theorem infoLink : (Tryd.prog.info? 94).map (fun i => (i.zero, i.size, i.bytes)) = some (some (.agg #[.string ⟨#[]⟩, .string ⟨#[]⟩]), 2, 32) := by kernel_rfl
theorem infoStrC : (Tryd.prog.info? 9).map (fun i => (i.zero, i.size, i.bytes)) = some (some (.string ⟨#[]⟩), 1, 16) := by kernel_rfl
/-- the cells of a list of elements -/
theorem fl_len {α : Type} {f : α → List Value} {m : Nat} (hf : ∀ a, (f a).length = m) (L : List α) : (L.flatMap f).length = L.length * m := by
  induction L with
  | nil => simp
  | cons a L ih => rw [List.flatMap_cons, List.length_append, ih, hf, List.length_cons, Nat.succ_mul]; omega
theorem fl_get {α : Type} {f : α → List Value} {m : Nat} (hf : ∀ a, (f a).length = m) (hm : 0 < m) : ∀ (L : List α) (j : Nat) (u : Value), (L.flatMap f)[j]? = some u → ∃ r x, L[r]? = some x ∧ j = r * m + j % m ∧ (f x)[j % m]? = some u
  | [], j, u, h => by simp at h
  | a :: L, j, u, h => by
    rw [List.flatMap_cons] at h
    by_cases hj : j < m
    · rw [List.getElem?_append_left (by rw [hf]; exact hj)] at h
      exact ⟨0, a, rfl, by rw [Nat.mod_eq_of_lt hj]; omega, by rw [Nat.mod_eq_of_lt hj]; exact h⟩
    · rw [List.getElem?_append_right (by rw [hf]; omega), hf] at h
      obtain ⟨r, x, h1, h2, h3⟩ := fl_get hf hm L (j - m) u h
      have hmod : (j - m) % m = j % m := by rw [Nat.mod_eq_sub_mod (by omega : m ≤ j)]
      rw [hmod] at h2 h3
      exact ⟨r + 1, x, h1, by rw [Nat.succ_mul]; omega, h3⟩
theorem in_news {α : Type} {f : α → List Value} {m : Nat} (hf : ∀ a, (f a).length = m) (hm : 0 < m) {W : World} {A : Option Addr} {L : List α} (h : CellsIn m f W A L) : ∀ j u, (L.flatMap f)[j]? = some u → ∃ b o, A = some ⟨b, o, none⟩ ∧ W.cell? ⟨b, o + j, none⟩ = some u := fun j u hu => by
  obtain ⟨r, x, h1, h2, h3⟩ := fl_get hf hm L j u hu
  obtain ⟨b, o, hA, _, hc⟩ := h r x h1
  exact ⟨b, o, hA, by rw [h2, ← Nat.add_assoc]; exact hc _ _ h3⟩
theorem len_rule (r : RV) : r.cells.length = 11 := rfl
theorem len_era (r : EV) : r.cells.length = 13 := rfl
theorem len_zone (r : ZV) : r.cells.length = 2 := rfl
theorem len_link (r : KV) : r.cells.length = 2 := rfl
theorem one_fl {α : Type} {f : α → List Value} (hf : ∀ a, ∀ u ∈ f a, u.oneCell' = true) (L : List α) : ∀ u ∈ L.flatMap f, u.oneCell' = true := fun u hu => by
  obtain ⟨a, _, h⟩ := List.mem_flatMap.1 hu
  exact hf a u h
theorem one_rule (r : RV) : ∀ u ∈ r.cells, u.oneCell' = true := fun u hu => by
  simp only [RV.cells, List.mem_cons, List.not_mem_nil, or_false] at hu
  rcases hu with rfl | rfl | rfl | rfl | rfl | rfl | rfl | rfl | rfl | rfl | rfl <;> rfl
theorem one_era (r : EV) : ∀ u ∈ r.cells, u.oneCell' = true := fun u hu => by
  simp only [EV.cells, List.mem_cons, List.not_mem_nil, or_false] at hu
  rcases hu with rfl | rfl | rfl | rfl | rfl | rfl | rfl | rfl | rfl | rfl | rfl | rfl | rfl <;> rfl
theorem one_zone (r : ZV) : ∀ u ∈ r.cells, u.oneCell' = true := fun u hu => by
  simp only [ZV.cells, List.mem_cons, List.not_mem_nil, or_false] at hu
  rcases hu with rfl | rfl <;> rfl
theorem one_link (r : KV) : ∀ u ∈ r.cells, u.oneCell' = true := fun u hu => by
  simp only [KV.cells, List.mem_cons, List.not_mem_nil, or_false] at hu
  rcases hu with rfl | rfl <;> rfl
/-- a list in a row of the call's own, from this block on -/
def RowOf {α : Type} (W : World) (base : Nat) (e : TypeId) (m : Nat) (f : α → List Value) (A : Option Addr) (c : Nat) (L : List α) : Prop := W.ownsRow base e m (.slice A L.length c) L.length (L.flatMap f)
theorem RowOf.below {α : Type} {W W' : World} {base : Nat} {e : TypeId} {m : Nat} {f : α → List Value} {A : Option Addr} {c : Nat} {L : List α} (h : RowOf W base e m f A c L) (hb : Below W.heap.size W W') : RowOf W' base e m f A c L := own_below h hb
/-- the zones that are copied so far, each with a row of its own for its eras -/
structure ZonesIn (W : World) (base : Nat) (Z Y : List ZV) : Prop where
  same : Y.length = Z.length ∧ ∀ (i : Nat) (z y : ZV), Z[i]? = some z → Y[i]? = some y → y.name = z.name ∧ y.eras = z.eras
  eras : ∀ (i : Nat) (y : ZV), Y[i]? = some y → RowOf W base 47 13 EV.cells y.A y.c y.eras
  apart : ∀ (i j : Nat) (y z : ZV), i < j → Y[i]? = some y → Y[j]? = some z → ∀ (g : Nat), y.A = some ⟨g, 0, none⟩ → z.A ≠ some ⟨g, 0, none⟩
theorem ZonesIn.below {W W' : World} {base : Nat} {Z Y : List ZV} (h : ZonesIn W base Z Y) (hb : Below W.heap.size W W') : ZonesIn W' base Z Y := ⟨h.same, fun i y hy => (h.eras i y hy).below hb, h.apart⟩
/-- a copy: the same values, in rows of its own -/
structure CopyOf (W : World) (base : Nat) (s t : SV) : Prop where
  rules : t.rules = s.rules ∧ RowOf W base 83 11 RV.cells t.rA t.rc t.rules
  zones : RowOf W base 39 2 ZV.cells t.zA t.zc t.zones ∧ ZonesIn W base s.zones t.zones
  links : t.links = s.links ∧ RowOf W base 94 2 KV.cells t.kA t.kc t.links
  shifts : t.shifts = s.shifts ∧ RowOf W base 9 1 (fun b : ByteArray => [Value.string b]) t.hA t.hc t.shifts
theorem own_base {w : World} {b b' n size : Nat} {e : TypeId} {v : Value} {xs : List Value} (h : w.ownsRow b e size v n xs) (hb : b' ≤ b) : w.ownsRow b' e size v n xs := by
  refine ⟨h.1, ?_⟩
  rcases h.2 with q | ⟨g, cap, cur, h1, h2, h3⟩
  · exact .inl q
  · exact .inr ⟨g, cap, cur, h1, Nat.le_trans hb h2, h3⟩
theorem row_other {W W' : World} {b1 b2 e1 e2 n1 n2 s1 s2 : Nat} {v1 v2 : Value} {x1 x2 : List Value} (h : W.ownsRow b1 e1 s1 v1 n1 x1) (k : W.ownsRow b2 e2 s2 v2 n2 x2) (hne : e1 ≠ e2) (hg : W.grownBy W' v2.ownBlock) : W'.ownsRow b1 e1 s1 v1 n1 x1 := by
  refine ⟨h.1, ?_⟩
  rcases h.2 with q | ⟨g, cap, cur, hv, hb, hh, hr⟩
  · exact .inl q
  · refine .inr ⟨g, cap, cur, hv, hb, (hg.block g (h.lt g (by rw [hv]; rfl)).2 fun e => ?_).trans hh, hr⟩
    rcases k.2 with ⟨rfl, _⟩ | ⟨g', cap', cur', rfl, _, hh', _⟩
    · cases e
    · have : g = g' := Option.some.inj e
      subst this
      rw [hh] at hh'
      injection hh' with hh'
      injection hh' with _ q _
      exact hne q
theorem ZonesIn.other {W W' : World} {base b2 n2 s2 : Nat} {e2 : TypeId} {v2 : Value} {x2 : List Value} {Z Y : List ZV} (h : ZonesIn W base Z Y) (k : W.ownsRow b2 e2 s2 v2 n2 x2) (hne : 47 ≠ e2) (hg : W.grownBy W' v2.ownBlock) : ZonesIn W' base Z Y := ⟨h.same, fun i y hy => row_other (h.eras i y hy) k hne hg, h.apart⟩
theorem flat_pick {α : Type} {f : α → List Value} {m : Nat} (hf : ∀ a, (f a).length = m) : ∀ (l : List α) (k j : Nat) (x : α), j < m → l[k]? = some x → (l.flatMap f)[k * m + j]? = (f x)[j]?
  | [], k, j, x, _, h => by simp at h
  | a :: l, 0, j, x, hj, h => by
    simp only [List.getElem?_cons_zero, Option.some.injEq] at h
    subst h
    rw [List.flatMap_cons, Nat.zero_mul, Nat.zero_add, List.getElem?_append_left (by rw [hf]; exact hj)]
  | a :: l, k + 1, j, x, hj, h => by
    simp only [List.getElem?_cons_succ] at h
    rw [List.flatMap_cons, List.getElem?_append_right (by rw [hf, Nat.succ_mul]; omega), hf, show (k + 1) * m + j - m = k * m + j by rw [Nat.succ_mul]; omega]
    exact flat_pick hf l k j x hj h
/-- the elements of a row, as a slice that is read -/
theorem RowOf.cellsIn {α : Type} {W : World} {base : Nat} {e : TypeId} {m : Nat} {f : α → List Value} {A : Option Addr} {c : Nat} {L : List α} (h : RowOf W base e m f A c L) (hf : ∀ a, (f a).length = m) : CellsIn m f W A L := by
  intro k r hr
  have hpos : 0 < L.length := by have := (List.getElem?_eq_some_iff.1 hr).1; omega
  obtain ⟨B, cap, hv, hB, hlt, hcap, hc⟩ := own_form h hpos
  injection hv with hA
  refine ⟨B, 0, hA, hlt, fun j u hu => ?_⟩
  rw [Nat.zero_add]
  refine hc _ _ ?_
  have hj : j < m := by rw [← hf r]; exact (List.getElem?_eq_some_iff.1 hu).1
  rw [flat_pick hf L k j r hj hr]
  exact hu
theorem CopyOf.src {W : World} {base : Nat} {s t : SV} (h : CopyOf W base s t) : SrcIn W t :=
  ⟨h.rules.2.cellsIn len_rule, h.zones.1.cellsIn len_zone, h.links.2.cellsIn len_link, h.shifts.2.cellsIn (fun _ => rfl), fun z hz => by
    obtain ⟨i, hi⟩ := List.mem_iff_getElem?.1 hz
    exact (h.zones.2.eras i z hi).cellsIn len_era⟩
/-- a row whose element is altered in one cell -/
theorem flat_set {α : Type} {f : α → List Value} {m : Nat} (hf : ∀ a, (f a).length = m) : ∀ (L : List α) (k j : Nat) (x y : α) (u : Value), j < m → L[k]? = some x → f y = (f x).set j u → (L.flatMap f).set (k * m + j) u = (L.set k y).flatMap f
  | [], k, j, x, y, u, _, h, _ => by simp at h
  | a :: L, 0, j, x, y, u, hj, h, hy => by
    simp only [List.getElem?_cons_zero, Option.some.injEq] at h
    subst h
    rw [List.flatMap_cons, Nat.zero_mul, Nat.zero_add, List.set_append_left _ _ (by rw [hf]; exact hj), List.set_cons_zero, List.flatMap_cons, hy]
  | a :: L, k + 1, j, x, y, u, hj, h, hy => by
    simp only [List.getElem?_cons_succ] at h
    have ih := flat_set hf L k j x y u hj h hy
    rw [List.flatMap_cons, List.set_append_right _ _ (by rw [hf, Nat.succ_mul]; omega), hf, show (k + 1) * m + j - m = k * m + j by rw [Nat.succ_mul]; omega, ih, List.set_cons_succ, List.flatMap_cons]
theorem RowOf.set_ {α : Type} {W : World} {base : Nat} {e : TypeId} {m : Nat} {f : α → List Value} {B c : Nat} {L : List α} (h : RowOf W base e m f (some ⟨B, 0, none⟩) c L) (hf : ∀ a, (f a).length = m) (k j : Nat) (x y : α) (u : Value) (hj : j < m) (hk : L[k]? = some x) (hy : f y = (f x).set j u) :
    RowOf (W.setCell ⟨B, k * m + j, none⟩ u) base e m f (some ⟨B, 0, none⟩) c (L.set k y) := by
  have hlen := fl_len hf L
  have hkl := (List.getElem?_eq_some_iff.1 hk).1
  unfold RowOf at h ⊢
  rw [← flat_set hf L k j x y u hj hk hy, List.length_set]
  obtain ⟨h0, h1⟩ := h
  refine ⟨by rw [List.length_set]; exact h0, ?_⟩
  rcases h1 with ⟨hv, _⟩ | ⟨g, cap, cur, hv, hb, hh, hn, hm, hcs, hx⟩
  · cases hv
  · injection hv with e1 e2 e3
    injection e1 with e1
    injection e1 with e1
    subst e1
    refine .inr ⟨_, cap, cur.setIfInBounds (k * m + j) u, by rw [e3], hb, by simp [World.setCell, Array.getElem?_modify, hh], hn, hm, by simpa using hcs, ?_⟩
    rw [← hx, Array.toList_setIfInBounds, List.take_set]
/-- a store into a row leaves rows of other elements, and boxes of other types -/
theorem block_of {W : World} {b n size g : Nat} {e : TypeId} {v : Value} {xs : List Value} (h : W.ownsRow b e size v n xs) (hg : v.ownBlock = some g) : ∃ cur, W.heap[g]? = some (.cells cur e (0, 0)) := by
  rcases h.2 with ⟨rfl, _⟩ | ⟨g', cap, cur, rfl, _, hh, _⟩
  · cases hg
  · have : g' = g := Option.some.inj hg
    subst this
    exact ⟨cur, hh⟩
theorem row_set_other {W : World} {b1 b2 e1 e2 n1 n2 s1 s2 B j : Nat} {v1 v2 : Value} {x1 x2 : List Value} (h : W.ownsRow b1 e1 s1 v1 n1 x1) (k : W.ownsRow b2 e2 s2 v2 n2 x2) (hB : v2.ownBlock = some B) (hne : e1 ≠ e2) (u : Value) : (W.setCell ⟨B, j, none⟩ u).ownsRow b1 e1 s1 v1 n1 x1 := by
  refine ⟨h.1, ?_⟩
  rcases h.2 with q | ⟨g, cap, cur, hv, hb, hh, hr⟩
  · exact .inl q
  · refine .inr ⟨g, cap, cur, hv, hb, (Below.heap_setCell W _ u g (fun e => ?_)).trans hh, hr⟩
    obtain ⟨cur', hh'⟩ := block_of k hB
    have : g = B := e
    subst this
    rw [hh] at hh'
    injection hh' with hh'
    injection hh' with _ q _
    exact hne q
theorem blk_set_other {W : World} {b2 e2 n2 s2 B j g : Nat} {t : TypeId} {cs : Array Value} {v2 : Value} {x2 : List Value} (h : Blk W g t cs) (k : W.ownsRow b2 e2 s2 v2 n2 x2) (hB : v2.ownBlock = some B) (hne : t ≠ e2) (u : Value) : Blk (W.setCell ⟨B, j, none⟩ u) g t cs := by
  refine h.far (p := ⟨B, j, none⟩) (fun e => ?_) u
  obtain ⟨cur', hh'⟩ := block_of k hB
  have : g = B := e
  subst this
  unfold Blk at h
  rw [h] at hh'
  injection hh' with hh'
  injection hh' with _ q _
  exact hne q
end Go.Proofs.YtlideagcmhlkeaaDoor

/- Rules, eras, links, days and times are compared field by field: what the comparison answers. -/
namespace Go.Proofs.YtlideagcmhlkeaaDoor
open Go.RowKit
set_option linter.unusedVariables false
set_option linter.unusedSimpArgs false

theorem toList_eq_iff (a b : ByteArray) : (a.toList = b.toList) ↔ a = b := by
  constructor
  · intro h
    rw [ByteArray.toList_eq, ByteArray.toList_eq] at h
    exact ByteArray.ext (Array.ext' h)
  · rintro rfl; rfl
set_option maxRecDepth 100000 in
theorem eqi_day (d : Nat) (w : World) (a0 : Int) (a1 : Int) (a2 : Int) (b0 : Int) (b1 : Int) (b2 : Int) : (Op.equalIn (d + 2) 41 (.agg #[.int .i64 a0, .int .i64 a1, .int .i64 a2]) (.agg #[.int .i64 b0, .int .i64 b1, .int .i64 b2])).run Tryd.prog w = .ok (decide (a0 = b0 ∧ a1 = b1 ∧ a2 = b2)) w := by
  have p0 : Tryd.prog.stoodInHeld 41 = false := by kernel_rfl
  rw [run_equalIn_agg w (d + 1) 41 _ _ (by unfold Program.fieldsOf; rw [Tryd.underlying41]) p0]
  unfold Program.fieldsOf
  rw [Tryd.underlying41]
  simp [Op.eqFields, go_sem, Tryd.underlying3, toList_eq_iff]
  by_cases h0 : a0 = b0
  rotate_left
  · simp [h0]
  by_cases h1 : a1 = b1
  rotate_left
  · simp [h1]
  by_cases h2 : a2 = b2
  rotate_left
  · simp [h2]
  simp [h0, h1, h2]
set_option maxRecDepth 100000 in
theorem eqi_clock (d : Nat) (w : World) (a0 : Int) (a1 : Int) (b0 : Int) (b1 : Int) : (Op.equalIn (d + 2) 43 (.agg #[.int .i64 a0, .int .i64 a1]) (.agg #[.int .i64 b0, .int .i64 b1])).run Tryd.prog w = .ok (decide (a0 = b0 ∧ a1 = b1)) w := by
  have p0 : Tryd.prog.stoodInHeld 43 = false := by kernel_rfl
  rw [run_equalIn_agg w (d + 1) 43 _ _ (by unfold Program.fieldsOf; rw [Tryd.underlying43]) p0]
  unfold Program.fieldsOf
  rw [Tryd.underlying43]
  simp [Op.eqFields, go_sem, Tryd.underlying2, Tryd.underlying3, toList_eq_iff]
  by_cases h0 : a0 = b0
  rotate_left
  · simp [h0]
  by_cases h1 : a1 = b1
  rotate_left
  · simp [h1]
  simp [h0, h1]
set_option maxRecDepth 100000 in
theorem eqi_rule (d : Nat) (w : World) (a0 : ByteArray) (a1 : Int) (a2 : Int) (a3 : Int) (a4 : Int) (a5 : Int) (a6 : Int) (a7 : Int) (a8 : Int) (a9 : Int) (a10 : ByteArray) (b0 : ByteArray) (b1 : Int) (b2 : Int) (b3 : Int) (b4 : Int) (b5 : Int) (b6 : Int) (b7 : Int) (b8 : Int) (b9 : Int) (b10 : ByteArray) : (Op.equalIn (d + 4) 83 (.agg #[.string a0, .int .i64 a1, .int .i64 a2, .int .i64 a3, .int .i64 a4, .int .i64 a5, .int .i64 a6, .int .i64 a7, .int .i64 a8, .int .i64 a9, .string a10]) (.agg #[.string b0, .int .i64 b1, .int .i64 b2, .int .i64 b3, .int .i64 b4, .int .i64 b5, .int .i64 b6, .int .i64 b7, .int .i64 b8, .int .i64 b9, .string b10])).run Tryd.prog w = .ok (decide (a0 = b0 ∧ a1 = b1 ∧ a2 = b2 ∧ a3 = b3 ∧ a4 = b4 ∧ a5 = b5 ∧ a6 = b6 ∧ a7 = b7 ∧ a8 = b8 ∧ a9 = b9 ∧ a10 = b10)) w := by
  have p0 : Tryd.prog.stoodInHeld 83 = false := by kernel_rfl
  rw [run_equalIn_agg w (d + 3) 83 _ _ (by unfold Program.fieldsOf; rw [Tryd.underlying83]) p0]
  unfold Program.fieldsOf
  rw [Tryd.underlying83]
  simp [Op.eqFields, go_sem, Tryd.underlying9, Tryd.underlying3, Tryd.underlying2, Tryd.underlying41, Tryd.underlying43, eqi_day, eqi_clock, toList_eq_iff]
  by_cases h0 : a0 = b0
  rotate_left
  · simp [h0]
  by_cases h1 : a1 = b1
  rotate_left
  · simp [h1]
  by_cases h2 : a2 = b2
  rotate_left
  · simp [h2]
  by_cases h3 : a3 = b3
  rotate_left
  · simp [h3]
  by_cases h4 : a4 = b4
  rotate_left
  · simp [h4]
  by_cases h5 : a5 = b5
  rotate_left
  · simp [h5]
  by_cases h6 : a6 = b6
  rotate_left
  · simp [h6]
  by_cases h7 : a7 = b7
  rotate_left
  · simp [h7]
  by_cases h8 : a8 = b8
  rotate_left
  · simp [h8]
  by_cases h9 : a9 = b9
  rotate_left
  · simp [h9]
  by_cases h10 : a10 = b10
  rotate_left
  · simp [h10]
  simp [h0, h1, h2, h3, h4, h5, h6, h7, h8, h9, h10]
theorem neq_rule (w : World) (a0 : ByteArray) (a1 : Int) (a2 : Int) (a3 : Int) (a4 : Int) (a5 : Int) (a6 : Int) (a7 : Int) (a8 : Int) (a9 : Int) (a10 : ByteArray) (b0 : ByteArray) (b1 : Int) (b2 : Int) (b3 : Int) (b4 : Int) (b5 : Int) (b6 : Int) (b7 : Int) (b8 : Int) (b9 : Int) (b10 : ByteArray) : (binOp .neq 83 (.agg #[.string a0, .int .i64 a1, .int .i64 a2, .int .i64 a3, .int .i64 a4, .int .i64 a5, .int .i64 a6, .int .i64 a7, .int .i64 a8, .int .i64 a9, .string a10]) (.agg #[.string b0, .int .i64 b1, .int .i64 b2, .int .i64 b3, .int .i64 b4, .int .i64 b5, .int .i64 b6, .int .i64 b7, .int .i64 b8, .int .i64 b9, .string b10])).run Tryd.prog w = .ok (.bool (!decide (a0 = b0 ∧ a1 = b1 ∧ a2 = b2 ∧ a3 = b3 ∧ a4 = b4 ∧ a5 = b5 ∧ a6 = b6 ∧ a7 = b7 ∧ a8 = b8 ∧ a9 = b9 ∧ a10 = b10))) w := by
  rw [run_neq_struct, eqi_rule 9996]; rfl
set_option maxRecDepth 100000 in
theorem eqi_until (d : Nat) (w : World) (a0 : Bool) (a1 : Int) (a2 : Int) (a3 : Int) (a4 : Int) (a5 : Int) (a6 : Int) (a7 : Int) (b0 : Bool) (b1 : Int) (b2 : Int) (b3 : Int) (b4 : Int) (b5 : Int) (b6 : Int) (b7 : Int) : (Op.equalIn (d + 4) 45 (.agg #[.bool a0, .int .i64 a1, .int .i64 a2, .int .i64 a3, .int .i64 a4, .int .i64 a5, .int .i64 a6, .int .i64 a7]) (.agg #[.bool b0, .int .i64 b1, .int .i64 b2, .int .i64 b3, .int .i64 b4, .int .i64 b5, .int .i64 b6, .int .i64 b7])).run Tryd.prog w = .ok (decide (a0 = b0 ∧ a1 = b1 ∧ a2 = b2 ∧ a3 = b3 ∧ a4 = b4 ∧ a5 = b5 ∧ a6 = b6 ∧ a7 = b7)) w := by
  have p0 : Tryd.prog.stoodInHeld 45 = false := by kernel_rfl
  rw [run_equalIn_agg w (d + 3) 45 _ _ (by unfold Program.fieldsOf; rw [Tryd.underlying45]) p0]
  unfold Program.fieldsOf
  rw [Tryd.underlying45]
  simp [Op.eqFields, go_sem, Tryd.underlying4, Tryd.underlying3, Tryd.underlying2, Tryd.underlying41, Tryd.underlying43, eqi_day, eqi_clock, toList_eq_iff]
  by_cases h0 : a0 = b0
  rotate_left
  · simp [h0]
  by_cases h1 : a1 = b1
  rotate_left
  · simp [h1]
  by_cases h2 : a2 = b2
  rotate_left
  · simp [h2]
  by_cases h3 : a3 = b3
  rotate_left
  · simp [h3]
  by_cases h4 : a4 = b4
  rotate_left
  · simp [h4]
  by_cases h5 : a5 = b5
  rotate_left
  · simp [h5]
  by_cases h6 : a6 = b6
  rotate_left
  · simp [h6]
  by_cases h7 : a7 = b7
  rotate_left
  · simp [h7]
  simp [h0, h1, h2, h3, h4, h5, h6, h7]
set_option maxRecDepth 100000 in
theorem eqi_era (d : Nat) (w : World) (a0 : Int) (a1 : Int) (a2 : Int) (a3 : ByteArray) (a4 : ByteArray) (a5 : Bool) (a6 : Int) (a7 : Int) (a8 : Int) (a9 : Int) (a10 : Int) (a11 : Int) (a12 : Int) (b0 : Int) (b1 : Int) (b2 : Int) (b3 : ByteArray) (b4 : ByteArray) (b5 : Bool) (b6 : Int) (b7 : Int) (b8 : Int) (b9 : Int) (b10 : Int) (b11 : Int) (b12 : Int) : (Op.equalIn (d + 6) 47 (.agg #[.int .i64 a0, .int .i64 a1, .int .i64 a2, .string a3, .string a4, .bool a5, .int .i64 a6, .int .i64 a7, .int .i64 a8, .int .i64 a9, .int .i64 a10, .int .i64 a11, .int .i64 a12]) (.agg #[.int .i64 b0, .int .i64 b1, .int .i64 b2, .string b3, .string b4, .bool b5, .int .i64 b6, .int .i64 b7, .int .i64 b8, .int .i64 b9, .int .i64 b10, .int .i64 b11, .int .i64 b12])).run Tryd.prog w = .ok (decide (a0 = b0 ∧ a1 = b1 ∧ a2 = b2 ∧ a3 = b3 ∧ a4 = b4 ∧ a5 = b5 ∧ a6 = b6 ∧ a7 = b7 ∧ a8 = b8 ∧ a9 = b9 ∧ a10 = b10 ∧ a11 = b11 ∧ a12 = b12)) w := by
  have p0 : Tryd.prog.stoodInHeld 47 = false := by kernel_rfl
  rw [run_equalIn_agg w (d + 5) 47 _ _ (by unfold Program.fieldsOf; rw [Tryd.underlying47]) p0]
  unfold Program.fieldsOf
  rw [Tryd.underlying47]
  simp [Op.eqFields, go_sem, Tryd.underlying9, Tryd.underlying3, Tryd.underlying2, Tryd.underlying45, eqi_until, toList_eq_iff]
  by_cases h0 : a0 = b0
  rotate_left
  · simp [h0]
  by_cases h1 : a1 = b1
  rotate_left
  · simp [h1]
  by_cases h2 : a2 = b2
  rotate_left
  · simp [h2]
  by_cases h3 : a3 = b3
  rotate_left
  · simp [h3]
  by_cases h4 : a4 = b4
  rotate_left
  · simp [h4]
  by_cases h5 : a5 = b5
  rotate_left
  · simp [h5]
  by_cases h6 : a6 = b6
  rotate_left
  · simp [h6]
  by_cases h7 : a7 = b7
  rotate_left
  · simp [h7]
  by_cases h8 : a8 = b8
  rotate_left
  · simp [h8]
  by_cases h9 : a9 = b9
  rotate_left
  · simp [h9]
  by_cases h10 : a10 = b10
  rotate_left
  · simp [h10]
  by_cases h11 : a11 = b11
  rotate_left
  · simp [h11]
  by_cases h12 : a12 = b12
  rotate_left
  · simp [h12]
  simp [h0, h1, h2, h3, h4, h5, h6, h7, h8, h9, h10, h11, h12]
theorem neq_era (w : World) (a0 : Int) (a1 : Int) (a2 : Int) (a3 : ByteArray) (a4 : ByteArray) (a5 : Bool) (a6 : Int) (a7 : Int) (a8 : Int) (a9 : Int) (a10 : Int) (a11 : Int) (a12 : Int) (b0 : Int) (b1 : Int) (b2 : Int) (b3 : ByteArray) (b4 : ByteArray) (b5 : Bool) (b6 : Int) (b7 : Int) (b8 : Int) (b9 : Int) (b10 : Int) (b11 : Int) (b12 : Int) : (binOp .neq 47 (.agg #[.int .i64 a0, .int .i64 a1, .int .i64 a2, .string a3, .string a4, .bool a5, .int .i64 a6, .int .i64 a7, .int .i64 a8, .int .i64 a9, .int .i64 a10, .int .i64 a11, .int .i64 a12]) (.agg #[.int .i64 b0, .int .i64 b1, .int .i64 b2, .string b3, .string b4, .bool b5, .int .i64 b6, .int .i64 b7, .int .i64 b8, .int .i64 b9, .int .i64 b10, .int .i64 b11, .int .i64 b12])).run Tryd.prog w = .ok (.bool (!decide (a0 = b0 ∧ a1 = b1 ∧ a2 = b2 ∧ a3 = b3 ∧ a4 = b4 ∧ a5 = b5 ∧ a6 = b6 ∧ a7 = b7 ∧ a8 = b8 ∧ a9 = b9 ∧ a10 = b10 ∧ a11 = b11 ∧ a12 = b12))) w := by
  rw [run_neq_struct, eqi_era 9994]; rfl
end Go.Proofs.YtlideagcmhlkeaaDoor

/- The zones of two sources are compared (the reference of chapter 14): what zones answers. -/
namespace Go.Proofs.YtlideagcmhlkeaaDoor
open Go.RowKit Go.Lib
set_option linter.unusedVariables false
set_option linter.unusedSimpArgs false

/-- two lists of zones that are the same up to a place -/
def zTo14 (Z Y : List ZV) (n : Nat) : Prop := ∀ i z y, i < n → Z[i]? = some z → Y[i]? = some y → z.name = y.name ∧ z.eras = y.eras
def zSame14 (Z Y : List ZV) : Prop := Z.length = Y.length ∧ zTo14 Z Y Z.length
theorem zTo14.succ {Z Y : List ZV} {k : Nat} {z y : ZV} (h : zTo14 Z Y k) (hz : Z[k]? = some z) (hy : Y[k]? = some y) (hn : z.name = y.name) (he : z.eras = y.eras) : zTo14 Z Y (k + 1) := fun i a b hi ha hb => by
  by_cases hk : i < k
  · exact h i a b hk ha hb
  · obtain rfl : i = k := by omega
    rw [hz] at ha; rw [hy] at hb
    injection ha with ha; injection hb with hb
    subst ha; subst hb
    exact ⟨hn, he⟩
/-- two lists that are the same up to a place -/
def eTo14 {α : Type} (L M : List α) (n : Nat) : Prop := ∀ i : Nat, i < n → L[i]? = M[i]?
theorem eTo14.succ {α : Type} {L M : List α} {k : Nat} (h : eTo14 L M k) (hk : L[k]? = M[k]?) : eTo14 L M (k + 1) := fun i hi => by
  by_cases h2 : i < k
  · exact h i h2
  · obtain rfl : i = k := by omega
    exact hk
theorem eTo14.all {α : Type} {L M : List α} (h : eTo14 L M L.length) (hl : L.length = M.length) : L = M := List.ext_getElem? fun i => by
  by_cases hi : i < L.length
  · exact h i hi
  · rw [List.getElem?_eq_none (by omega), List.getElem?_eq_none (by omega)]
theorem ev_eq (a b : EV) : a = b ↔ (a.off = b.off ∧ a.kind = b.kind ∧ a.save = b.save ∧ a.set = b.set ∧ a.fmt = b.fmt ∧ a.ui = b.ui ∧ a.uy = b.uy ∧ a.um = b.um ∧ a.dk = b.dk ∧ a.dw = b.dw ∧ a.dd = b.dd ∧ a.asec = b.asec ∧ a.ab = b.ab) := by
  cases a; cases b; simp
theorem rv_eq (a b : RV) : a = b ↔ (a.name = b.name ∧ a.frm = b.frm ∧ a.til = b.til ∧ a.month = b.month ∧ a.dk = b.dk ∧ a.dw = b.dw ∧ a.dd = b.dd ∧ a.asec = b.asec ∧ a.abase = b.abase ∧ a.save = b.save ∧ a.letter = b.letter) := by
  cases a; cases b; simp
set_option maxRecDepth 100000 in
theorem eqi_link (d : Nat) (w : World) (a0 a1 b0 b1 : ByteArray) : (Op.equalIn (d + 2) 94 (.agg #[.string a0, .string a1]) (.agg #[.string b0, .string b1])).run Tryd.prog w = .ok (decide (a0 = b0 ∧ a1 = b1)) w := by
  have p0 : Tryd.prog.stoodInHeld 94 = false := by kernel_rfl
  rw [run_equalIn_agg w (d + 1) 94 _ _ (by unfold Program.fieldsOf; rw [Tryd.underlying94]) p0]
  unfold Program.fieldsOf
  rw [Tryd.underlying94]
  simp [Op.eqFields, go_sem, Tryd.underlying9, toList_eq_iff]
  by_cases h0 : a0 = b0
  rotate_left
  · simp [h0]
  by_cases h1 : a1 = b1
  rotate_left
  · simp [h1]
  simp [h0, h1]
theorem neq_link (w : World) (a0 a1 b0 b1 : ByteArray) : (binOp .neq 94 (.agg #[.string a0, .string a1]) (.agg #[.string b0, .string b1])).run Tryd.prog w = .ok (.bool (!decide (a0 = b0 ∧ a1 = b1))) w := by
  rw [run_neq_struct, eqi_link 9998]; rfl
theorem kv_eq (a b : KV) : a = b ↔ (a.target = b.target ∧ a.name = b.name) := by
  cases a; cases b; simp
end Go.Proofs.YtlideagcmhlkeaaDoor

/- The walk of zones (the reference of chapter 14). -/
namespace Go.Proofs.YtlideagcmhlkeaaDoor
open Go.RowKit Go.Lib
set_option linter.unusedVariables false
set_option linter.unusedSimpArgs false
attribute [local go_sem high] neq_era neq_rule neq_link

end Go.Proofs.YtlideagcmhlkeaaDoor

/- Two sources are compared (the reference of chapter 14, Same): the plain law of the answer. -/
namespace Go.Proofs.YtlideagcmhlkeaaDoor
open Go.RowKit Go.Lib
set_option linter.unusedVariables false
set_option linter.unusedSimpArgs false

/-- two sources are the same -/
structure sSame14 (a b : SV) : Prop where
  rules : a.rules = b.rules
  links : a.links = b.links
  shifts : a.shifts = b.shifts
  zones : zSame14 a.zones b.zones
theorem zSame14.refl (Z : List ZV) : zSame14 Z Z := ⟨rfl, fun i z y _ hz hy => by rw [hz] at hy; injection hy with hy; subst hy; exact ⟨rfl, rfl⟩⟩
theorem zSame14.symm {Z Y : List ZV} (h : zSame14 Z Y) : zSame14 Y Z := ⟨h.1.symm, fun i z y hi hz hy => by
  have hi2 : i < Z.length := by rw [h.1]; exact hi
  obtain ⟨q1, q2⟩ := h.2 i y z hi2 hy hz
  exact ⟨q1.symm, q2.symm⟩⟩
theorem zSame14.trans {X Y Z : List ZV} (h : zSame14 X Y) (k : zSame14 Y Z) : zSame14 X Z := ⟨h.1.trans k.1, fun i x z hi hx hz => by
  have hi2 : i < Y.length := by rw [← h.1]; exact hi
  obtain ⟨y, hy⟩ : ∃ y, Y[i]? = some y := ⟨_, List.getElem?_eq_getElem hi2⟩
  obtain ⟨q1, q2⟩ := h.2 i x y hi hx hy
  obtain ⟨r1, r2⟩ := k.2 i y z hi2 hy hz
  exact ⟨q1.trans r1, q2.trans r2⟩⟩
theorem sSame14.symm {a b : SV} (h : sSame14 a b) : sSame14 b a := ⟨h.rules.symm, h.links.symm, h.shifts.symm, h.zones.symm⟩
theorem sSame14.trans {a b c : SV} (h : sSame14 a b) (k : sSame14 b c) : sSame14 a c := ⟨h.rules.trans k.rules, h.links.trans k.links, h.shifts.trans k.shifts, h.zones.trans k.zones⟩
end Go.Proofs.YtlideagcmhlkeaaDoor

/- Copies of sources that are written to, and eras that are changed one by one. No function of the program. -/
namespace Go.Proofs.YtlideagcmhlkeaaDoor
open Go.RowKit
set_option linter.unusedVariables false

theorem CopyOf.below {W W' : World} {base : Nat} {s t : SV} (h : CopyOf W base s t) (hb : Below W.heap.size W W') : CopyOf W' base s t :=
  ⟨⟨h.rules.1, h.rules.2.below hb⟩, ⟨h.zones.1.below hb, h.zones.2.below hb⟩, ⟨h.links.1, h.links.2.below hb⟩, ⟨h.shifts.1, h.shifts.2.below hb⟩⟩
theorem CopyOf.self {W : World} {base : Nat} {s t : SV} (h : CopyOf W base s t) : CopyOf W base t t :=
  ⟨⟨rfl, h.rules.2⟩, ⟨h.zones.1, ⟨⟨rfl, fun i z y hz hy => by rw [hz] at hy; injection hy with hy; subst hy; exact ⟨rfl, rfl⟩⟩, h.zones.2.eras, h.zones.2.apart⟩⟩, ⟨rfl, h.links.2⟩, ⟨rfl, h.shifts.2⟩⟩
theorem CopyOf.same {W : World} {base : Nat} {s t : SV} (h : CopyOf W base s t) : sSame14 t s :=
  ⟨h.rules.1, h.links.1, h.shifts.1, ⟨h.zones.2.same.1, fun i z y _ hz hy => h.zones.2.same.2 i y z hy hz⟩⟩
/-- the source with another era at a place -/
def SV.setEra (t : SV) (i : Nat) (z : ZV) (k : Nat) (e : EV) : SV := { t with zones := t.zones.set i { z with eras := z.eras.set k e } }
theorem own_setOff {W : World} {base n size B j : Nat} {e : TypeId} {v : Value} {xs : List Value} (h : W.ownsRow base e size v n xs) (hB : v.ownBlock ≠ some B) (u : Value) : (W.setCell ⟨B, j, none⟩ u).ownsRow base e size v n xs := by
  refine ⟨h.1, ?_⟩
  rcases h.2 with q | ⟨g, cap, cur, hv, hb, hh, hr⟩
  · exact .inl q
  · refine .inr ⟨g, cap, cur, hv, hb, (Below.heap_setCell W _ u g (fun e => hB ?_)).trans hh, hr⟩
    rw [hv]
    show some g = some B
    rw [show g = B from e]
theorem zcells_set : ∀ {Z : List ZV} {i : Nat} {z z' : ZV}, Z[i]? = some z → z'.cells = z.cells → (Z.set i z').flatMap ZV.cells = Z.flatMap ZV.cells
  | [], i, z, z', h, _ => by simp at h
  | a :: Z, 0, z, z', h, hc => by
    simp only [List.getElem?_cons_zero, Option.some.injEq] at h
    subst h
    rw [List.set_cons_zero, List.flatMap_cons, List.flatMap_cons, hc]
  | a :: Z, i + 1, z, z', h, hc => by
    simp only [List.getElem?_cons_succ] at h
    rw [List.set_cons_succ, List.flatMap_cons, List.flatMap_cons, zcells_set h hc]
theorem set_from {Z : List ZV} {i a : Nat} {z z' y : ZV} (hz : Z[i]? = some z) (hA : z'.A = z.A) (h : (Z.set i z')[a]? = some y) : ∃ x, Z[a]? = some x ∧ x.A = y.A := by
  by_cases hi : i = a
  · subst hi
    rw [List.getElem?_set_self (List.getElem?_eq_some_iff.1 hz).1] at h
    injection h with h
    subst h
    exact ⟨z, hz, hA.symm⟩
  · rw [List.getElem?_set_ne hi] at h
    exact ⟨y, h, rfl⟩
/-- one cell of an era is stored -/
theorem CopyOf.setCell {W : World} {base : Nat} {t : SV} (h : CopyOf W base t t) {i : Nat} {z : ZV} (hz : t.zones[i]? = some z) {g : Nat} (hA : z.A = some ⟨g, 0, none⟩) {k j : Nat} {x y : EV} (hk : z.eras[k]? = some x) (u : Value) (hj : j < 13) (hy : y.cells = x.cells.set j u) :
    CopyOf (W.setCell ⟨g, k * 13 + j, none⟩ u) base (t.setEra i z k y) (t.setEra i z k y) := by
  have hrow := h.zones.2.eras i z hz
  rw [hA] at hrow
  have hO : (Value.slice (some ⟨g, 0, none⟩) z.eras.length z.c).ownBlock = some g := rfl
  refine ⟨⟨rfl, row_set_other h.rules.2 hrow hO (by decide) u⟩, ⟨?_, ⟨⟨rfl, fun i z y hz hy => by rw [hz] at hy; injection hy with hy; subst hy; exact ⟨rfl, rfl⟩⟩, fun a y' hy' => ?_, fun a b y' z' hab hya hzb g' h1 h2 => ?_⟩⟩, ⟨rfl, row_set_other h.links.2 hrow hO (by decide) u⟩, ⟨rfl, row_set_other h.shifts.2 hrow hO (by decide) u⟩⟩
  · show RowOf _ base 39 2 ZV.cells t.zA t.zc (t.zones.set i _)
    unfold RowOf
    rw [List.length_set, zcells_set hz (by unfold ZV.cells; rw [List.length_set])]
    exact row_set_other h.zones.1 hrow hO (by decide) u
  · show RowOf _ base 47 13 EV.cells y'.A y'.c y'.eras
    have hy'' : (t.zones.set i { z with eras := z.eras.set k y })[a]? = some y' := hy'
    by_cases hi : i = a
    · subst hi
      rw [List.getElem?_set_self (List.getElem?_eq_some_iff.1 hz).1] at hy''
      injection hy'' with hy''
      subst hy''
      show RowOf _ base 47 13 EV.cells z.A z.c (z.eras.set k y)
      rw [hA]
      exact hrow.set_ len_era k j x y u hj hk hy
    · rw [List.getElem?_set_ne hi] at hy''
      have hr := h.zones.2.eras a y' hy''
      refine own_setOff hr (fun q => ?_) u
      have hyA : y'.A = some ⟨g, 0, none⟩ := by
        rcases hr.2 with ⟨q2, _⟩ | ⟨g2, cap, cur, hv, _⟩
        · rw [q2] at q; cases q
        · rw [hv] at q
          have q3 : g2 = g := Option.some.inj q
          subst q3
          injection hv
      rcases Nat.lt_or_gt_of_ne hi with hlt | hgt
      · exact h.zones.2.apart i a z y' hlt hz hy'' g hA hyA
      · exact h.zones.2.apart a i y' z hgt hy'' hz g hyA hA
  · obtain ⟨x1, hx1, e1⟩ := set_from (z' := { z with eras := z.eras.set k y }) hz rfl hya
    obtain ⟨x2, hx2, e2⟩ := set_from (z' := { z with eras := z.eras.set k y }) hz rfl hzb
    exact h.zones.2.apart a b x1 x2 hab hx1 hx2 g' (e1.trans h1) (e2.trans h2)
theorem CopyOf.eraAddr {W : World} {base : Nat} {s t : SV} (h : CopyOf W base s t) {i : Nat} {z : ZV} (hz : t.zones[i]? = some z) (hl : 0 < z.eras.length) : ∃ g, z.A = some ⟨g, 0, none⟩ ∧ base ≤ g ∧ g < W.heap.size := by
  have hr := h.zones.2.eras i z hz
  rcases hr.2 with ⟨_, q⟩ | ⟨g, cap, cur, hv, hb, hh, _⟩
  · omega
  · injection hv with hA
    exact ⟨g, hA, hb, (Array.getElem?_eq_some_iff.1 hh).1⟩
/-- the eras in front of a place are changed, the others stay -/
def part30 (G : EV → EV) (Z Y : List ZV) (i k : Nat) : Prop :=
  Y.length = Z.length ∧ ∀ (a : Nat) (z y : ZV), Z[a]? = some z → Y[a]? = some y → y.name = z.name ∧ y.eras.length = z.eras.length ∧ ∀ (b : Nat) (e : EV), z.eras[b]? = some e → y.eras[b]? = some (if a < i ∨ (a = i ∧ b < k) then G e else e)
theorem part30.start {G : EV → EV} {Z Y : List ZV} (h : zSame14 Y Z) : part30 G Z Y 0 0 := ⟨h.1, fun a z y hz hy => by
  obtain ⟨h1, h2⟩ := h.2 a y z (List.getElem?_eq_some_iff.1 hy).1 hy hz
  refine ⟨h1, by rw [h2], fun b e he => ?_⟩
  rw [if_neg (by omega), h2]
  exact he⟩
theorem part30.step {G : EV → EV} {Z Y : List ZV} {i k : Nat} {z y : ZV} {e : EV} (h : part30 G Z Y i k) (hz : Z[i]? = some z) (hy : Y[i]? = some y) (he : z.eras[k]? = some e) : part30 G Z (Y.set i { y with eras := y.eras.set k (G e) }) i (k + 1) := ⟨by rw [List.length_set]; exact h.1, fun a z' y' hz' hy' => by
  by_cases hi : i = a
  · subst hi
    rw [hz] at hz'
    injection hz' with hz'
    subst hz'
    rw [List.getElem?_set_self (List.getElem?_eq_some_iff.1 hy).1] at hy'
    injection hy' with hy'
    subst hy'
    obtain ⟨h1, h2, h3⟩ := h.2 i z y hz hy
    refine ⟨h1, by show (y.eras.set k (G e)).length = _; rw [List.length_set]; exact h2, fun b x hx => ?_⟩
    show (y.eras.set k (G e))[b]? = _
    by_cases hb : k = b
    · subst hb
      rw [List.getElem?_set_self (by rw [h2]; exact (List.getElem?_eq_some_iff.1 he).1), if_pos (by omega)]
      rw [he] at hx
      injection hx with hx
      rw [hx]
    · rw [List.getElem?_set_ne hb, h3 b x hx]
      by_cases hlt : b < k
      · rw [if_pos (by omega), if_pos (by omega)]
      · rw [if_neg (by omega), if_neg (by omega)]
  · rw [List.getElem?_set_ne hi] at hy'
    obtain ⟨h1, h2, h3⟩ := h.2 a z' y' hz' hy'
    refine ⟨h1, h2, fun b x hx => ?_⟩
    rw [h3 b x hx]
    by_cases hlt : a < i
    · rw [if_pos (by omega), if_pos (by omega)]
    · rw [if_neg (by omega), if_neg (by omega)]⟩
theorem part30.skip {G : EV → EV} {Z Y : List ZV} {i k : Nat} {z : ZV} {e : EV} (h : part30 G Z Y i k) (hz : Z[i]? = some z) (he : z.eras[k]? = some e) (hG : G e = e) : part30 G Z Y i (k + 1) := ⟨h.1, fun a z' y' hz' hy' => by
  obtain ⟨h1, h2, h3⟩ := h.2 a z' y' hz' hy'
  refine ⟨h1, h2, fun b x hx => ?_⟩
  rw [h3 b x hx]
  by_cases hlt : a < i ∨ (a = i ∧ b < k)
  · rw [if_pos hlt, if_pos (by omega)]
  · by_cases hq : a = i ∧ b = k
    · obtain ⟨rfl, rfl⟩ := hq
      rw [hz] at hz'
      injection hz' with hz'
      subst hz'
      rw [he] at hx
      injection hx with hx
      subst hx
      rw [if_neg hlt, if_pos (by omega), hG]
    · rw [if_neg hlt, if_neg (by omega)]⟩
theorem part30.zone {G : EV → EV} {Z Y : List ZV} {i k : Nat} {z : ZV} (h : part30 G Z Y i k) (hz : Z[i]? = some z) (hk : z.eras.length ≤ k) : part30 G Z Y (i + 1) 0 := ⟨h.1, fun a z' y' hz' hy' => by
  obtain ⟨h1, h2, h3⟩ := h.2 a z' y' hz' hy'
  refine ⟨h1, h2, fun b x hx => ?_⟩
  rw [h3 b x hx]
  by_cases hlt : a < i
  · rw [if_pos (by omega), if_pos (by omega)]
  · by_cases hq : a = i
    · subst hq
      rw [hz] at hz'
      injection hz' with hz'
      subst hz'
      have := (List.getElem?_eq_some_iff.1 hx).1
      rw [if_pos (by omega), if_pos (by omega)]
    · rw [if_neg (by omega), if_neg (by omega)]⟩
/-- the era of the written source at the place itself -/
theorem part30.at_ {G : EV → EV} {Z Y : List ZV} {i k : Nat} {z : ZV} {e : EV} (h : part30 G Z Y i k) (hz : Z[i]? = some z) (he : z.eras[k]? = some e) : ∃ y, Y[i]? = some y ∧ y.eras[k]? = some e := by
  have hl := (List.getElem?_eq_some_iff.1 hz).1
  obtain ⟨y, hy⟩ : ∃ y, Y[i]? = some y := ⟨_, List.getElem?_eq_getElem (by rw [h.1]; exact hl)⟩
  refine ⟨y, hy, ?_⟩
  rw [(h.2 i z y hz hy).2.2 k e he, if_neg (by omega)]
def mapE (G : EV → EV) (z : ZV) : ZV := { z with eras := z.eras.map G }
def mapS (G : EV → EV) (s : SV) : SV := { s with zones := s.zones.map (mapE G) }
theorem part30.all {G : EV → EV} {Z Y : List ZV} {i : Nat} (h : part30 G Z Y i 0) (hi : Z.length ≤ i) : zSame14 Y (Z.map (mapE G)) := ⟨by rw [List.length_map]; exact h.1, fun a y z' ha hy hz' => by
  rw [List.getElem?_map] at hz'
  obtain ⟨z, hz, rfl⟩ := Option.map_eq_some_iff.1 hz'
  obtain ⟨h1, h2, h3⟩ := h.2 a z y hz hy
  refine ⟨h1, List.ext_getElem? fun b => ?_⟩
  show _ = (z.eras.map G)[b]?
  rw [List.getElem?_map]
  by_cases hb : b < z.eras.length
  · rw [h3 b _ (List.getElem?_eq_getElem hb), List.getElem?_eq_getElem hb, if_pos (by have := (List.getElem?_eq_some_iff.1 hz).1; omega)]
    rfl
  · rw [List.getElem?_eq_none (by omega), List.getElem?_eq_none (by omega)]
    rfl⟩
end Go.Proofs.YtlideagcmhlkeaaDoor

/- The plain law of turned FORMATs (chapter 29): parts exchanged, twice is as before. No function of the program. -/
namespace Go.Proofs.YtlideagcmhlkeaaDoor
open Go.RowKit
set_option linter.unusedVariables false

namespace P29
/-- a turned FORMAT -/
def turn (l : List UInt8) : List UInt8 := if P21.two l = true then (P21.slash l).2.1 ++ [47] ++ (P21.slash l).1 else l
theorem turn_no {l : List UInt8} (h : P21.two l = false) : turn l = l := by unfold turn; rw [if_neg (by rw [h]; decide)]
theorem two_parts {l : List UInt8} (h : P21.two l = true) : ∃ a b, P21.slash l = (a, b, true) ∧ ((P21.kind l = 2 ∧ P21.abbr a = true ∧ P21.abbr b = true) ∨ (P21.kind l = 5 ∧ P21.num a = true ∧ P21.num b = true)) := by
  rcases two_kind h with k | k
  · obtain ⟨a, b, hs, ha, hb⟩ := P21.kind_is2 k
    exact ⟨a, b, hs, .inl ⟨k, ha, hb⟩⟩
  · rcases P21.kind_is5 k with q | ⟨a, b, hs, ha, hb⟩
    · have h2 : (P21.slash l).2.2 = true := by
        unfold P21.two at h
        simp only [Bool.and_eq_true] at h
        exact h.1
      have := P21.num_no (P21.slash_mem h2) (by decide)
      rw [this] at q; cases q
    · exact ⟨a, b, hs, .inr ⟨k, ha, hb⟩⟩
theorem noslash {l : List UInt8} (h : P21.abbr l = true ∨ P21.num l = true) : ∀ c ∈ l, c ≠ 47 := fun c hc => by
  rintro rfl
  rcases h with h | h
  · have := (P21.abbr_all h).2.2 _ hc
    revert this; decide
  · have := P21.num_mem h _ hc
    revert this; decide
theorem turn_yes {l a b : List UInt8} (h : P21.two l = true) (hs : P21.slash l = (a, b, true)) : turn l = b ++ 47 :: a := by
  unfold turn
  rw [if_pos h, hs]
  simp
/-- a FORMAT with two parts, turned -/
theorem turn_two {l : List UInt8} (h : P21.two l = true) : ∃ a b, P21.slash l = (a, b, true) ∧ P21.slash (turn l) = (b, a, true) ∧ P21.two (turn l) = true ∧ P21.kind (turn l) = P21.kind l ∧ turn (turn l) = l := by
  obtain ⟨a, b, hs, hk⟩ := two_parts h
  have ht := turn_yes h hs
  have hb : ∀ c ∈ b, c ≠ 47 := by
    rcases hk with ⟨_, _, q⟩ | ⟨_, _, q⟩
    · exact noslash (.inl q)
    · exact noslash (.inr q)
  have hs2 : P21.slash (turn l) = (b, a, true) := by rw [ht]; exact P21.slash_at hb
  have hk2 : P21.kind (turn l) = P21.kind l := by
    rcases hk with ⟨k, qa, qb⟩ | ⟨k, qa, qb⟩
    · rw [k]; exact P21.kind2 hs2 qb qa
    · rw [k]; exact P21.kind5s hs2 qb qa
  have h2 : P21.two (turn l) = true := by
    unfold P21.two
    rw [hs2, hk2]
    rcases hk with ⟨k, _⟩ | ⟨k, _⟩ <;> rw [k] <;> rfl
  refine ⟨a, b, hs, hs2, h2, hk2, ?_⟩
  rw [turn_yes h2 hs2]
  exact (P21.slash_join hs).symm
theorem turn_turn (l : List UInt8) : turn (turn l) = l := by
  cases h : P21.two l with
  | true => obtain ⟨_, _, _, _, _, _, q⟩ := turn_two h; exact q
  | false => rw [turn_no h, turn_no h]
theorem turn_len (l : List UInt8) : (turn l).length = l.length := by
  cases h : P21.two l with
  | true =>
    obtain ⟨a, b, hs, _⟩ := two_parts h
    have q := congrArg List.length (P21.slash_join hs)
    rw [turn_yes h hs, q]
    simp
    omega
  | false => rw [turn_no h]
end P29
/-- the FORMAT of a turned era -/
def turnB (f : ByteArray) : ByteArray := str (P29.turn (P4.bl f))
theorem str_blP (f : ByteArray) : str (P4.bl f) = f := by
  obtain ⟨⟨l⟩⟩ := f
  rfl
theorem bl_strP (l : List UInt8) : P4.bl (str l) = l := str_data l
theorem turnB_turn (f : ByteArray) : turnB (turnB f) = f := by
  unfold turnB
  rw [bl_strP, P29.turn_turn, str_blP]
theorem turnB_size (f : ByteArray) : (turnB f).size = f.size := by
  unfold turnB
  rw [str_size, P29.turn_len, P4.bl_len]
/-- a turned era: that of a set alone is turned -/
def turnE (set : ByteArray) (e : EV) : EV := if e.kind = 2 ∧ e.set = set then { e with fmt := turnB e.fmt } else e
theorem turnE_yes {set : ByteArray} {e : EV} (h : e.kind = 2) (hs : e.set = set) : turnE set e = { e with fmt := turnB e.fmt } := if_pos ⟨h, hs⟩
theorem turnE_no {set : ByteArray} {e : EV} (h : ¬ (e.kind = 2 ∧ e.set = set)) : turnE set e = e := if_neg h
theorem turnE_turn (set : ByteArray) (e : EV) : turnE set (turnE set e) = e := by
  by_cases h : e.kind = 2 ∧ e.set = set
  · rw [turnE_yes h.1 h.2, turnE_yes (by exact h.1) (by exact h.2)]
    show ({ e with fmt := turnB (turnB e.fmt) } : EV) = e
    rw [turnB_turn]
  · rw [turnE_no h, turnE_no h]
theorem turnE_set (a : ByteArray) (e : EV) : (turnE a e).set = e.set ∧ (turnE a e).kind = e.kind := by unfold turnE; split <;> exact ⟨rfl, rfl⟩
theorem turnE_comm (a b : ByteArray) (hab : a ≠ b) (e : EV) : turnE a (turnE b e) = turnE b (turnE a e) := by
  by_cases hb : e.set = b
  · have ha : ¬ e.set = a := fun q => hab (q.symm.trans hb)
    rw [turnE_no (set := a) (e := e) (fun q => ha q.2)]
    exact turnE_no fun q => ha ((turnE_set b e).1.symm.trans q.2)
  · rw [turnE_no (set := b) (e := e) (fun q => hb q.2)]
    exact (turnE_no fun q => hb ((turnE_set a e).1.symm.trans q.2)).symm
theorem mapS_mapS29 (F G : EV → EV) (s : SV) : mapS F (mapS G s) = mapS (fun e => F (G e)) s := by
  unfold mapS
  congr 1
  show (s.zones.map (mapE G)).map (mapE F) = _
  rw [List.map_map]
  refine List.map_congr_left fun z _ => ?_
  show ({ z with eras := (z.eras.map G).map F } : ZV) = { z with eras := z.eras.map fun e => F (G e) }
  rw [List.map_map]
  rfl
theorem mapS_id29 {F : EV → EV} {s : SV} (h : ∀ z ∈ s.zones, ∀ e ∈ z.eras, F e = e) : mapS F s = s := by
  obtain ⟨rA, rc, R, zA, zc, Z, kA, kc, K, hA, hc, H⟩ := s
  unfold mapS
  congr 1
  show Z.map (mapE F) = Z
  conv => rhs; rw [← List.map_id Z]
  refine List.map_congr_left fun z hz => ?_
  obtain ⟨nm, A, c, E⟩ := z
  unfold mapE
  show (⟨nm, A, c, E.map F⟩ : ZV) = ⟨nm, A, c, E⟩
  rw [show E.map F = E from by
    conv => rhs; rw [← List.map_id E]
    exact List.map_congr_left fun e he => h _ hz e he]
theorem mapS_ext29 {F G : EV → EV} {s : SV} (h : ∀ e, F e = G e) : mapS F s = mapS G s := by rw [show F = G from funext h]
end Go.Proofs.YtlideagcmhlkeaaDoor

/- The walks of numeric.sum and of the reference's sum (chapter 20). -/
namespace Go.Proofs.YtlideagcmhlkeaaDoor
open Go.RowKit
set_option linter.unusedVariables false

theorem wrap_hi (n : Int) (h0 : 9223372036854775808 ≤ n) (h1 : n ≤ 18446744073709551615) : wrap64 n = n - 18446744073709551616 := by
  unfold wrap64; omega
theorem wrap_lo (n : Int) (h0 : n < -9223372036854775808) (h1 : -18446744073709551616 ≤ n) : wrap64 n = n + 18446744073709551616 := by
  unfold wrap64; omega
set_option maxHeartbeats 400000 in
theorem sum_fit (a b : Int) (w : World) (a0 : -9223372036854775808 ≤ a) (a1 : a ≤ 9223372036854775807) (b0 : -9223372036854775808 ≤ b) (b1 : b ≤ 9223372036854775807)
    (h0 : -9223372036854775808 ≤ a + b) (h1 : a + b ≤ 9223372036854775807) :
    Calls Tryd.prog 91 #[.int .i64 a, .int .i64 b] w fun e w' => e = .returned (.tuple #[.int .i64 (a + b), .bool true]) ∧ w = w' := by
  by_cases hb : 0 < b
  · have hc : a < a + b := by omega
    go_enter Tryd.func91, Tryd.ntmps91
    go_wp2_with fail
    go_ret2
    exact ⟨rfl, rfl⟩
  · have hc : ¬ a < a + b := by omega
    go_enter Tryd.func91, Tryd.ntmps91
    go_wp2_with fail
    go_ret2
    exact ⟨rfl, rfl⟩
set_option maxHeartbeats 400000 in
theorem sum_lo (a b : Int) (w : World) (a0 : -9223372036854775808 ≤ a) (a1 : a ≤ 9223372036854775807) (b0 : -9223372036854775808 ≤ b) (b1 : b ≤ 9223372036854775807) (h : a + b < -9223372036854775808) :
    Calls Tryd.prog 91 #[.int .i64 a, .int .i64 b] w fun e w' => e = .returned (.tuple #[.int .i64 (a + b + 18446744073709551616), .bool false]) ∧ w = w' := by
  have hw := wrap_lo (a + b) h (by omega)
  have hb : decide (0 < b) = false := decide_eq_false (by omega)
  have hc : a < a + b + 18446744073709551616 := by omega
  have HW := Lib.hid hw
  go_enter Tryd.func91, Tryd.ntmps91
  go_wp2_with fail
  go_ret2
  exact ⟨by rw [← HW.out]; rfl, rfl⟩
set_option maxHeartbeats 400000 in
theorem sum_hi (a b : Int) (w : World) (a0 : -9223372036854775808 ≤ a) (a1 : a ≤ 9223372036854775807) (b0 : -9223372036854775808 ≤ b) (b1 : b ≤ 9223372036854775807) (h : 9223372036854775807 < a + b) :
    Calls Tryd.prog 91 #[.int .i64 a, .int .i64 b] w fun e w' => e = .returned (.tuple #[.int .i64 (a + b - 18446744073709551616), .bool false]) ∧ w = w' := by
  have hw := wrap_hi (a + b) (by omega) (by omega)
  have hb : 0 < b := by omega
  have hc : decide (a < a + b - 18446744073709551616) = false := decide_eq_false (by omega)
  have HW := Lib.hid hw
  go_enter Tryd.func91, Tryd.ntmps91
  go_wp2_with fail
  go_ret2
  exact ⟨by rw [← HW.out]; rfl, rfl⟩
end Go.Proofs.YtlideagcmhlkeaaDoor

/- The walk of numeric.joined (chapter 20). -/
namespace Go.Proofs.YtlideagcmhlkeaaDoor
open Go.RowKit
set_option linter.unusedVariables false

/-- the numbers of offsets, with a slash between two of them, or the error -/
def P20.jFrom (off : Int) (acc : List (List UInt8)) : List Int → List UInt8 × Int
  | [] => (Lib.join acc [47], 0)
  | x :: l => if P20.text (off + x) = [] then ([], 3) else P20.jFrom off (acc ++ [P20.text (off + x)]) l
theorem jFrom_one (off x : Int) : P20.jFrom off [] [x] = P20.one (P20.text (off + x)) := by
  rw [P20.jFrom, P20.jFrom, P20.one]
  by_cases h : P20.text (off + x) = []
  · rw [if_pos h, if_pos h]
  · rw [if_neg h, if_neg h]; simp [Lib.join]
theorem jFrom_two (off x y : Int) : P20.jFrom off [] [x, y] = P20.both (P20.text (off + x)) (P20.text (off + y)) := by
  rw [P20.jFrom, P20.jFrom, P20.jFrom, P20.both]
  by_cases h : P20.text (off + x) = []
  · rw [if_pos h, if_pos (.inl h)]
  · rw [if_neg h]
    by_cases h' : P20.text (off + y) = []
    · rw [if_pos h', if_pos (.inr h')]
    · rw [if_neg h', if_neg (by simp [h, h'])]; simp [Lib.join]
theorem jFrom_step {off : Int} {acc : List (List UInt8)} {L : List Int} {k : Nat} {x : Int} (h : L[k]? = some x) (ht : P20.text (off + x) ≠ []) : P20.jFrom off acc (L.drop k) = P20.jFrom off (acc ++ [P20.text (off + x)]) (L.drop (k + 1)) := by
  have hk := (List.getElem?_eq_some_iff.mp h).1
  rw [List.drop_eq_getElem_cons hk, (List.getElem?_eq_some_iff.mp h).2, P20.jFrom, if_neg ht]
theorem jFrom_bad {off : Int} {acc : List (List UInt8)} {L : List Int} {k : Nat} {x : Int} (h : L[k]? = some x) (ht : P20.text (off + x) = []) : P20.jFrom off acc (L.drop k) = ([], 3) := by
  have hk := (List.getElem?_eq_some_iff.mp h).1
  rw [List.drop_eq_getElem_cons hk, (List.getElem?_eq_some_iff.mp h).2, P20.jFrom, if_pos ht]
theorem text_le (x : Int) : (P20.text x).length ≤ 7 := by have := P20.text_len x; omega
theorem join_len (acc : List (List UInt8)) (h2 : acc.length ≤ 2) (h7 : ∀ t ∈ acc, t.length ≤ 7) : (Lib.join acc [47]).length ≤ 15 := by
  match acc, h2 with
  | [], _ => simp [Lib.join]
  | [a], _ => have := h7 a (by simp); simp [Lib.join]; omega
  | [a, b], _ => have := h7 a (by simp); have := h7 b (by simp); simp [Lib.join]; omega
def svals (acc : List (List UInt8)) : List Value := acc.map fun t => .string (str t)
theorem svals_snoc (acc : List (List UInt8)) (t : List UInt8) : svals (acc ++ [t]) = svals acc ++ [.string (str t)] := List.map_append
theorem infoStr : (Tryd.prog.info? 9).map (fun i => (i.zero, i.size, i.bytes)) = some (some (.string ⟨#[]⟩), 1, 16) := by kernel_rfl
theorem join_any (acc : List (List UInt8)) (B cap : Nat) (W : World) (h2 : acc.length ≤ 2) (h7 : ∀ t ∈ acc, t.length ≤ 7) (hB : B < W.heap.size) (hcap : acc.length ≤ cap) (hc : ∀ k u, (svals acc)[k]? = some u → W.cell? ⟨B, k, none⟩ = some u) :
    Calls Tryd.prog 92 #[.slice (some ⟨B, 0, none⟩) acc.length cap, .string ⟨#[47]⟩] W fun e w' => e = .returned (.string (str (Lib.join acc [47]))) ∧ Below W.heap.size W w' := by
  have hm : (acc.map str).map (fun x => x.data.toList) = acc := by rw [List.map_map]; exact List.map_id _
  have hjl := join_len acc h2 h7
  have q := Tryd.strings_Join B 0 cap (acc.map str) ⟨#[47]⟩ W (fun j x hx => by
    rw [Nat.zero_add]
    rw [List.getElem?_map] at hx
    cases ha : acc[j]? with
    | none => rw [ha] at hx; cases hx
    | some t =>
      rw [ha] at hx
      injection hx with hx
      rw [← hx]
      exact hc j _ (by unfold svals; rw [List.getElem?_map, ha]; rfl)) hB (by rw [List.length_map]; omega) (by rw [List.length_map]; exact hcap) (by rw [hm]; exact Nat.le_trans hjl (by decide))
  rw [hm, List.length_map] at q
  exact q
theorem sum_over_all (a b : Int) (a0 : -9223372036854775808 ≤ a) (a1 : a ≤ 9223372036854775807) (b0 : -9223372036854775808 ≤ b) (b1 : b ≤ 9223372036854775807) (h : a + b < -9223372036854775808 ∨ 9223372036854775807 < a + b) :
    ∃ C : Int, -9223372036854775808 ≤ C ∧ C ≤ 9223372036854775807 ∧ Hid (∀ W, Calls Tryd.prog 91 #[.int .i64 a, .int .i64 b] W fun e w' => e = .returned (.tuple #[.int .i64 C, .bool false]) ∧ W = w') := by
  by_cases h' : a + b < -9223372036854775808
  · refine ⟨a + b + 18446744073709551616, by omega, by omega, fun W => ?_⟩
    exact sum_lo a b W a0 a1 b0 b1 h'
  · refine ⟨a + b - 18446744073709551616, by omega, by omega, fun W => ?_⟩
    exact sum_hi a b W a0 a1 b0 b1 (by omega)
/-- integers in a block -/
def IntsIn (w : World) (B : Nat) (L : List Int) : Prop := B < w.heap.size ∧ ∀ k x, L[k]? = some x → w.cell? ⟨B, k, none⟩ = some (.int .i64 x)
theorem IntsIn.below {w w' : World} {B : Nat} {L : List Int} (h : IntsIn w B L) (hb : Below w.heap.size w w') : IntsIn w' B L :=
  ⟨Nat.lt_of_lt_of_le h.1 hb.size, fun k x hx => (hb.cell (p := ⟨B, k, none⟩) h.1).trans (h.2 k x hx)⟩
theorem IntsIn.alloc {w : World} {B : Nat} {L : List Int} (h : IntsIn w B L) (ob : Obj) : IntsIn (w.alloc ob) B L := h.below ((Below.refl _ _).alloc (Nat.le_refl _) ob)
theorem IntsIn.grown {w w' : World} {base B n size : Nat} {e : TypeId} {v : Value} {xs : List Value} {L : List Int} (h : IntsIn w B L) (ho : w.ownsRow base e size v n xs) (hg : w.grownBy w' v.ownBlock) (hlt : B < base) : IntsIn w' B L :=
  ⟨Nat.lt_of_lt_of_le h.1 hg.size, fun k x hx => by
    rw [← h.2 k x hx]
    exact World.cell?_of_block (hg.block B h.1 fun q => by have := (ho.lt B q.symm).1; omega)⟩

set_option maxRecDepth 100000 in
set_option maxHeartbeats 8000000 in
theorem joined_any (off : Int) (B c : Nat) (L : List Int) (w : World) (o0 : -9223372036854775808 ≤ off) (o1 : off ≤ 9223372036854775807) (hL0 : 0 < L.length) (hL2 : L.length ≤ 2) (hb64 : ∀ x ∈ L, -9223372036854775808 ≤ x ∧ x ≤ 9223372036854775807) (hI : IntsIn w B L) :
    Calls Tryd.prog 54 #[.int .i64 off, .slice (some ⟨B, 0, none⟩) L.length c] w fun e w' => e = .returned (.tuple #[.string (str (P20.jFrom off [] L).1), .int .i64 (P20.jFrom off [] L).2]) ∧ Below w.heap.size w w' := by
  obtain ⟨R, hRR⟩ : ∃ R, R = P20.jFrom off [] L := ⟨_, rfl⟩
  rw [← hRR]
  have HR : Hid (P20.jFrom off [] (L.drop 0) = R) := Lib.hid hRR.symm
  clear hRR
  have hli : (L.length : Int) ≤ 2 := by omega
  have hlp : (0 : Int) < (L.length : Int) := by omega
  have HB64 := Lib.hid hb64
  have HBlt := Lib.hid hI.1
  have hO : w.ownsRow w.heap.size 9 1 (.slice none 0 0) ([] : List (List UInt8)).length (svals []) := ⟨rfl, .inl ⟨rfl, rfl⟩⟩
  clear hb64
  go_enter Tryd.func54, Tryd.ntmps54
  go_wp2_with fail
  go_loopw [6, 14] (fun v i wr => ∃ (k : Nat) (acc : List (List UInt8)), k ≤ L.length ∧ acc.length = k ∧ i = .int .i64 k ∧ wr.ownsRow w.heap.size 9 1 v acc.length (svals acc) ∧ Hid (∀ t ∈ acc, t.length ≤ 7) ∧ Hid (P20.jFrom off acc (L.drop k) = R) ∧ IntsIn wr B L ∧ Below w.heap.size w wr) (fun _ i _ => L.length - (intOf i).toNat)
  case atStart => exact ⟨0, [], Nat.zero_le _, rfl, rfl, hO, fun t ht => by simp at ht, HR, hI, Below.refl _ _⟩
  case round =>
    clear HR hO hI
    obtain ⟨k, acc, hk, hak, rfl, hO, H7, HR, hI, hb⟩ := hrel
    have HAK := Lib.hid hak
    clear hak
    by_cases hlt : k < L.length
    · obtain ⟨x, hx⟩ : ∃ x, L[k]? = some x := ⟨_, List.getElem?_eq_getElem hlt⟩
      have c0 := hI.2 k x hx
      obtain ⟨x0, x1⟩ := HB64.out x (List.mem_of_getElem? hx)
      have hki : (k : Int) < (L.length : Int) := by omega
      by_cases hf : -9223372036854775808 ≤ off + x ∧ off + x ≤ 9223372036854775807
      · obtain ⟨f0, f1⟩ := hf
        have cS : Hid (∀ W, Calls Tryd.prog 91 #[.int .i64 off, .int .i64 x] W fun e w' => e = .returned (.tuple #[.int .i64 (off + x), .bool true]) ∧ W = w') := fun W => sum_fit off x W o0 o1 x0 x1 f0 f1
        have cT : Hid (∀ W, Calls Tryd.prog 24 #[.int .i64 (off + x)] W fun e w' => e = .returned (.string (str (P20.text (off + x)))) ∧ Below W.heap.size W w') := fun W => ntext_any (off + x) W f0 f1
        have hst := fun q => jFrom_step (off := off) (acc := acc) hx q
        have hbd := fun q => jFrom_bad (off := off) (acc := acc) hx q
        have ht7 := text_le (off + x)
        generalize P20.text (off + x) = T at cT hst hbd ht7
        generalize off + x = Y at cS cT f0 f1
        by_cases hT : T = []
        · have HG := Lib.hid (HR.out.symm.trans (hbd hT))
          subst hT
          clear hst hbd hx HR hO
          go_wp2_with fail
          refine (cS.out _).mono ?_
          rintro e w1 ⟨rfl, rfl⟩
          go_wp2_with fail
          refine (cT.out _).mono ?_
          rintro e w2 ⟨rfl, hc2⟩
          have hb2 := hb.trans (hc2.mono hb.size)
          have n1 : (str []).toList = [] := by rw [ByteArray.toList_eq]; rfl
          clear hb hc2
          go_wp2_with fail
          go_ret2
          exact ⟨by rw [HG.out]; rfl, hb2⟩
        · have HG := Lib.hid ((hst hT).symm.trans HR.out)
          have hTl : 0 < T.length := List.length_pos_iff.2 hT
          obtain ⟨n1, n2⟩ := str_ne hTl
          have HAL := Lib.hid (show acc.length ≤ 1 by have := HAK.out; omega)
          have H72 : Hid (∀ t ∈ acc ++ [T], t.length ≤ 7) := fun t ht => by
            rw [List.mem_append] at ht
            rcases ht with ht | ht
            · exact H7.out t ht
            · rw [List.mem_singleton] at ht; rw [ht]; exact ht7
          have HSN := Lib.hid (svals_snoc acc T)
          have HSL := Lib.hid (show (acc ++ [T]).length = acc.length + 1 by simp)
          clear hst hbd hx HR hT
          go_wp2_with fail
          refine (cS.out _).mono ?_
          rintro e w1 ⟨rfl, rfl⟩
          go_wp2_with fail
          refine (cT.out _).mono ?_
          rintro e w2 ⟨rfl, hc2⟩
          have hb2 := hb.trans (hc2.mono hb.size)
          have hNB : Hid (Blk (w2.alloc (.cells #[.string (str T)] 9)) w2.heap.size 9 #[.string (str T)]) := Lib.hid (Blk.new _ _ _)
          have HO := Lib.hid ((own_below hO hc2).alloc (.cells #[.string (str T)] 9))
          have HI := Lib.hid ((hI.below hc2).alloc (.cells #[.string (str T)] 9))
          have HB := Lib.hid (hb2.alloc hb2.size (.cells #[.string (str T)] 9))
          obtain ⟨i0, hi, hz0, hz1, hz2⟩ := info_parts infoStr
          clear hb hc2 hO hI hb2 cS cT c0
          go_wp2_with (at_builtin; refine wpList_append_own _ rfl _ _ 30 rfl w.heap.size 9 i0 (.string ⟨#[]⟩) 1 16 Tryd.underlying30 hi hz0 hz1 hz2 rfl (by decide) _ _ _ rfl HO.out ⟨w2.heap.size, 0, none⟩ 1 1 [.string (str T)] rfl rfl (blk_cells hNB.out) (by simp [Value.oneCell']) (by have := HAL.out; simp only [maxLen]; omega) (by have := HAL.out; omega) HB.out.size ?_)
          intro v1 wa hown hgr hne
          have hb3 := own_grown HB.out HO.out hgr HB.out.size (Nat.le_refl _)
          have hI2 := HI.out.grown HO.out hgr HBlt.out
          rw [← HSN.out, ← HSL.out] at hown
          clear hgr hne HO HI HB hNB HSN
          go_wp2_with fail
          go_roundw
          case rel => exact ⟨k + 1, acc ++ [T], by omega, by rw [HSL.out, HAK.out], by go_num, hown, H72, HG, hI2, hb3⟩
          case measure => simp [intOf]; omega
      · have hT : P20.text (off + x) = [] := P20.text_out (by omega)
        have HG := Lib.hid (HR.out.symm.trans (jFrom_bad (off := off) (acc := acc) hx hT))
        obtain ⟨C, C0, C1, cS0⟩ : ∃ C : Int, -9223372036854775808 ≤ C ∧ C ≤ 9223372036854775807 ∧ Hid (∀ W, Calls Tryd.prog 91 #[.int .i64 off, .int .i64 x] W fun e w' => e = .returned (.tuple #[.int .i64 C, .bool false]) ∧ W = w') := sum_over_all off x o0 o1 x0 x1 (by omega)
        have cT : Hid (∀ W, Calls Tryd.prog 24 #[.int .i64 C] W fun e w' => e = .returned (.string (str (P20.text C))) ∧ Below W.heap.size W w') := fun W => ntext_any C W C0 C1
        generalize P20.text C = T at cT
        clear hx HR hO hT hf
        go_wp2_with fail
        refine (cS0.out _).mono ?_
        rintro e w1 ⟨rfl, rfl⟩
        go_wp2_with fail
        refine (cT.out _).mono ?_
        rintro e w2 ⟨rfl, hc2⟩
        have hb2 := hb.trans (hc2.mono hb.size)
        clear hb hc2
        go_wp2_with fail
        go_ret2
        exact ⟨by rw [HG.out]; rfl, hb2⟩
    · obtain rfl : k = L.length := by omega
      have hki : ¬ (L.length : Int) < (L.length : Int) := by omega
      obtain ⟨B2, cap, rfl, hB0, hB1, hcap, hcs⟩ := own_form hO (by have := HAK.out; omega)
      have HG : Hid (R = (Lib.join acc [47], 0)) := by
        have q := HR.out
        rw [List.drop_length] at q
        exact Lib.hid q.symm
      have cJ : Hid (Calls Tryd.prog 92 #[.slice (some ⟨B2, 0, none⟩) acc.length cap, .string ⟨#[47]⟩] wr fun e w' => e = .returned (.string (str (Lib.join acc [47]))) ∧ Below wr.heap.size wr w') := Lib.hid (join_any acc B2 cap wr (by have := HAK.out; omega) H7.out hB1 hcap hcs)
      clear hO hI hcs HR
      go_wp2_with fail
      refine cJ.out.mono ?_
      rintro e w2 ⟨rfl, hc2⟩
      have hb2 := hb.trans (hc2.mono hb.size)
      clear hb hc2
      go_wp2_with fail
      go_ret2
      exact ⟨by rw [HG.out]; rfl, hb2⟩
end Go.Proofs.YtlideagcmhlkeaaDoor

/- The walks of ruleset.Other and of the reference's Other (chapters 16, 20). -/
namespace Go.Proofs.YtlideagcmhlkeaaDoor
open Go.RowKit
set_option linter.unusedVariables false

def svs (L : List RV) : List Int := L.map (·.save)
theorem svs_drop {L : List RV} {k : Nat} {r : RV} (h : L[k]? = some r) : (svs L).drop k = r.save :: (svs L).drop (k + 1) := by
  have hk : k < (svs L).length := by rw [svs, List.length_map]; exact (List.getElem?_eq_some_iff.mp h).1
  rw [List.drop_eq_getElem_cons hk]
  congr 1
  have := (List.getElem?_eq_some_iff.mp h).2
  simp [svs, this]
theorem of_zero {X : Int} {L : List RV} {k : Nat} {r : RV} (h : L[k]? = some r) (hz : r.save = 0) : P20.otherFrom X ((svs L).drop k) = P20.otherFrom X ((svs L).drop (k + 1)) := by
  rw [svs_drop h, P20.otherFrom, if_pos hz]
theorem of_bad {X : Int} {L : List RV} {k : Nat} {r : RV} (h : L[k]? = some r) (hz : r.save ≠ 0) (hx : X ≠ 0) (hr : r.save ≠ X) : P20.otherFrom X ((svs L).drop k) = (0, false) := by
  rw [svs_drop h, P20.otherFrom, if_neg hz, if_pos ⟨hx, hr⟩]
theorem of_new {X : Int} {L : List RV} {k : Nat} {r : RV} (h : L[k]? = some r) (hz : r.save ≠ 0) (hx : ¬ (X ≠ 0 ∧ r.save ≠ X)) : P20.otherFrom X ((svs L).drop k) = P20.otherFrom r.save ((svs L).drop (k + 1)) := by
  rw [svs_drop h, P20.otherFrom, if_neg hz, if_neg hx]
theorem of_end (X : Int) (L : List RV) : P20.otherFrom X ((svs L).drop L.length) = (X, decide (X ≠ 0)) := by
  rw [List.drop_eq_nil_of_le (by rw [svs, List.length_map]; exact Nat.le_refl _)]; rfl
theorem dne (X : Int) : decide (X ≠ 0) = (X != 0) := by
  rw [Bool.eq_iff_iff]; simp

set_option maxRecDepth 100000 in
set_option maxHeartbeats 4000000 in
theorem other_any (A : Option Addr) (L : List RV) (c : Nat) (w : World) (hl : L.length ≤ 1100000) (hR : RulesIn w A L) :
    Calls Tryd.prog 15 #[.slice A L.length c] w fun e w' => e = .returned (.tuple #[.int .i64 (P20.other (svs L)).1, .bool (P20.other (svs L)).2]) ∧ Below w.heap.size w w' := by
  obtain ⟨R, hRR⟩ : ∃ R, R = P20.other (svs L) := ⟨_, rfl⟩
  rw [← hRR]
  have HR : Hid (P20.otherFrom 0 ((svs L).drop 0) = R) := Lib.hid hRR.symm
  clear hRR
  have hli : (L.length : Int) ≤ 1100000 := by omega
  go_enter Tryd.func15, Tryd.ntmps15
  go_wp2_with fail
  go_loopw [4, 9] (fun x i wr => ∃ (k : Nat) (X : Int), k ≤ L.length ∧ i = .int .i64 k ∧ x = .int .i64 X ∧ Hid (P20.otherFrom X ((svs L).drop k) = R) ∧ RulesIn wr A L ∧ Below w.heap.size w wr) (fun _ i _ => L.length - (intOf i).toNat)
  case atStart => exact ⟨0, 0, Nat.zero_le _, rfl, rfl, HR, hR, Below.refl _ _⟩
  case round =>
    clear HR hR
    obtain ⟨k, X, hk, rfl, rfl, HR, hR, hb⟩ := hrel
    by_cases hlt : k < L.length
    · obtain ⟨r, hr⟩ : ∃ r, L[k]? = some r := ⟨_, List.getElem?_eq_getElem hlt⟩
      obtain ⟨b, o, rfl, hlb, c0, c1, c2, c3, c4, c5, c6, c7, c8, c9, c10⟩ := hR.get k r hr
      have hki : (k : Int) < (L.length : Int) := by omega
      have z0 := fun q => of_zero (X := X) hr q
      have z1 := fun q => of_bad (X := X) hr q
      have z2 := fun q => of_new (X := X) hr q
      obtain ⟨nm, fr, tl, mo, dk, dw, dd, sc, bs, sv, lt⟩ := r
      simp only at c0 c1 c2 c3 c4 c5 c6 c7 c8 c9 c10 z0 z1 z2
      have hR2 := Lib.hid (hR.alloc (.cells #[.string nm, .int .i64 fr, .int .i64 tl, .int .i64 mo, .int .i64 dk, .int .i64 dw, .int .i64 dd, .int .i64 sc, .int .i64 bs, .int .i64 sv, .string lt] 83))
      have hb2 := hb.alloc hb.size (.cells #[.string nm, .int .i64 fr, .int .i64 tl, .int .i64 mo, .int .i64 dk, .int .i64 dw, .int .i64 dd, .int .i64 sc, .int .i64 bs, .int .i64 sv, .string lt] 83)
      by_cases hz : sv = 0
      · have HG := Lib.hid (z0 hz)
        have e1 : (sv == 0) = true := by rw [beq_iff_eq]; exact hz
        have e2 : (sv != 0) = false := by rw [bne_eq_false_iff_eq]; exact hz
        clear z0 z1 z2 hr hR
        clear hz
        go_wp2_with fail
        go_roundw
        case rel => exact ⟨k + 1, X, by omega, by go_num, rfl, Lib.hid (HG.out.symm.trans HR.out), hR2.out, hb2⟩
        case measure => simp [intOf]; omega
      · have e1 : (sv == 0) = false := by rw [beq_eq_false_iff_ne]; exact hz
        have e2 : (sv != 0) = true := by rw [bne_iff_ne]; exact hz
        by_cases hx : X = 0
        · have HG := Lib.hid (z2 hz (fun q => q.1 hx))
          have e3 : (X != 0) = false := by rw [bne_eq_false_iff_eq]; exact hx
          clear z0 z1 z2 hr hR
          clear hz hx
          go_wp2_with fail
          go_roundw
          case rel => exact ⟨k + 1, sv, by omega, by go_num, rfl, Lib.hid (HG.out.symm.trans HR.out), hR2.out, hb2⟩
          case measure => simp [intOf]; omega
        · have e3 : (X != 0) = true := by rw [bne_iff_ne]; exact hx
          by_cases hq : sv = X
          · have HG := Lib.hid (z2 hz (fun q => q.2 hq))
            have e4 : (sv != X) = false := by rw [bne_eq_false_iff_eq]; exact hq
            clear z0 z1 z2 hr hR
            clear hz hx hq
            go_wp2_with fail
            go_roundw
            case rel => exact ⟨k + 1, sv, by omega, by go_num, rfl, Lib.hid (HG.out.symm.trans HR.out), hR2.out, hb2⟩
            case measure => simp [intOf]; omega
          · have HG := Lib.hid (z1 hz hx hq)
            have e4 : (sv != X) = true := by rw [bne_iff_ne]; exact hq
            clear z0 z1 z2 hr hR
            clear hz hx hq
            go_wp2_with fail
            go_ret2
            exact ⟨by rw [← HR.out, HG.out]; rfl, hb2⟩
    · obtain rfl : k = L.length := by omega
      have HG := Lib.hid ((of_end X L).symm.trans HR.out)
      rw [dne] at HG
      have hki : ¬ (L.length : Int) < (L.length : Int) := by omega
      clear HR
      go_wp2_with fail
      go_ret2
      exact ⟨by rw [← HG.out]; rfl, hb⟩
end Go.Proofs.YtlideagcmhlkeaaDoor
