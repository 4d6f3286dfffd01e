/- Texts of one proof, one behind the other: Com; Blk; Own; Rules; Slices; Src; Plain32; Eqs; Bld; Shelf; Rep32a; Rep32b; Rep32f; App; Cs; CopyB. -/
import Derived.WalkKit
import Derived.WalkSpells
import Derived.WalkLawsBesides
import Derived.BigQuiet
import Derived.Deep.QuietTactic
import Derived.Lib.Hide
import Derived.Below
import Derived.Laws.AppendOwn
import Derived.Laws.OwnMore
import Derived.Laws.BytesString
import Derived.Test.YtlideagcmhlkeaaDoorChecked
import Derived.Deep.Slices
import Derived.Deep.Fields
import Derived.ChangeSame
import Derived.WideShapes
import Derived.Lib.ItoaNum
import Derived.Laws.StructEq
import Derived.Shelf.Strings.BuilderK
import Derived.Shelf.Strings.Builder1
import Derived.Shelf.Strings.Builder2
import Derived.Shelf.Strings.OnBuilder
import Derived.Shelf.Strconv.Itoa0
import Derived.Shelf.Strconv.Itoa1
import Derived.Shelf.LaysM
import Derived.Shelf.Strconv.Itoa2
import Derived.Shelf.Strconv.Itoa3
import Derived.Ground.MpProg
import Derived.Shelf.Pu.ParseUintPublic10
import Derived.Shelf.Pu.ErrVarParseUint
import Derived.Shelf.Strings.Search1
import Derived.Shelf.Strings.Search2
import Derived.Shelf.Strings.Cut
import Derived.Shelf.Strings.Shaped
import Derived.Shelf.GgClosure.StringsIndexFunc
import Derived.Shelf.Strings.Prefix
import Derived.Ground.SlgnProg
import Derived.Shelf.SlicesE.Equal
import Derived.Shelf.SlicesE.Clone
import Derived.Test.YtlideagcmhlkeaaDoorProg
import Derived.OpenShut
import Derived.IntWalk
import Derived.Deep.DeepCutAuto
import Derived.Deep.CutBlock
import Derived.Deep.AppendLies
import Derived.Laws.IdiomStrings

/- Small lemmas for walks: draws, quiet calls, strings. No function of the program. -/
namespace Go.Proofs.YtlideagcmhlkeaaDoor
open Go.RowKit

/-- the call only drew -/
def Q (w w' : World) : Prop := ∃ n, w' = w.drewN n
theorem Q.refl (w : World) : Q w w := ⟨0, rfl⟩
theorem Q.drewN (w : World) (n : Nat) : Q w (w.drewN n) := ⟨n, rfl⟩
theorem Q.below {w w' : World} (h : Q w w') (B : Nat) : Below B w w' := by
  obtain ⟨n, rfl⟩ := h
  exact ⟨rfl, rfl, rfl, Nat.le_refl _, fun _ _ => rfl⟩
theorem below_drewN {B : Nat} {a w : World} (h : Below B a w) (n : Nat) : Below B a (w.drewN n) := ⟨h.os, h.tape, h.output, h.size, h.block⟩
/-- a string of bytes, behind a name of its own -/
def str (l : List UInt8) : ByteArray := ⟨l.toArray⟩
theorem str_append (a b : List UInt8) : str a ++ str b = str (a ++ b) := by
  apply ByteArray.ext
  simp [str, ByteArray.data_append]
end Go.Proofs.YtlideagcmhlkeaaDoor

/- Blocks that are known whole. No function of the program. -/
namespace Go.Proofs.YtlideagcmhlkeaaDoor
open Go.RowKit
set_option linter.unusedVariables false

/-- block g is just these cells, none of them frozen -/
def Blk (w : World) (g : Nat) (t : TypeId) (cs : Array Value) : Prop := w.heap[g]? = some (.cells cs t (0, 0))
section
variable {w w' : World} {g : Nat} {t : TypeId} {cs : Array Value}
theorem Blk.lt (h : Blk w g t cs) : g < w.heap.size := by
  rcases Nat.lt_or_ge g w.heap.size with hlt | hge
  · exact hlt
  · unfold Blk at h; rw [Array.getElem?_eq_none hge] at h; cases h
theorem Blk.cell (h : Blk w g t cs) (i : Nat) : w.cell? ⟨g, i, none⟩ = cs[i]? := cell_of_row w g i cs t (0, 0) h
theorem Blk.below {B : Nat} (h : Blk w g t cs) (hb : Below B w w') (hg : g < B) : Blk w' g t cs := (hb.block g hg).trans h
theorem Blk.alloc (h : Blk w g t cs) (o : Obj) : Blk (w.alloc o) g t cs := (Below.heap_alloc w o g h.lt).trans h
end
theorem Blk.new (w : World) (t : TypeId) (cs : Array Value) : Blk (w.alloc (.cells cs t)) w.heap.size t cs := heap_alloc_new w _
theorem Blk.newAt (w : World) (n : Nat) (h : w.heap.size = n) (t : TypeId) (cs : Array Value) : Blk (w.alloc (.cells cs t)) n t cs := h ▸ Blk.new w t cs
theorem Blk.frozen {w : World} {g : Nat} {t : TypeId} {cs : Array Value} (h : Blk w g t cs) (i : Nat) : w.frozen? ⟨g, i, none⟩ = false := by
  unfold Blk at h
  simp [World.frozen?, h]
theorem Blk.set_ {w : World} {g : Nat} {t : TypeId} {cs : Array Value} (h : Blk w g t cs) (i : Nat) (u : Value) : Blk (w.setCell ⟨g, i, none⟩ u) g t (cs.setIfInBounds i u) := by
  unfold Blk at h ⊢
  simp [World.setCell, Array.getElem?_modify, h]
theorem Blk.far {w : World} {g : Nat} {t : TypeId} {cs : Array Value} (h : Blk w g t cs) {p : Addr} (hp : g ≠ p.block) (u : Value) : Blk (w.setCell p u) g t cs := (Below.heap_setCell w p u g hp).trans h
theorem Blk.drewN {w : World} {g : Nat} {t : TypeId} {cs : Array Value} (h : Blk w g t cs) (n : Nat) : Blk (w.drewN n) g t cs := h
theorem Blk.q {w w' : World} {g : Nat} {t : TypeId} {cs : Array Value} (h : Blk w g t cs) (hq : Q w w') : Blk w' g t cs := by
  obtain ⟨n, rfl⟩ := hq
  exact h
end Go.Proofs.YtlideagcmhlkeaaDoor

/- Rows of the call's own: made, opened, kept; bytes in a row as a list; their string. No function of the program. -/
namespace Go.Proofs.YtlideagcmhlkeaaDoor
open Go.RowKit
set_option linter.unusedVariables false

theorem add_zero_off (B j : Nat) : (⟨B, 0, none⟩ : Addr).add j = ⟨B, j, none⟩ := by unfold Addr.add; split <;> simp_all
theorem blk_cells {w : World} {B : Nat} {e : TypeId} {cs : Array Value} (h : Blk w B e cs) : ∀ (j : Nat) u, cs.toList[j]? = some u → w.cell? ((⟨B, 0, none⟩ : Addr).add j) = some u := by
  intro j u hu
  rw [add_zero_off, h.cell j, ← Array.getElem?_toList]
  exact hu
theorem own_new {w : World} {base B : Nat} {e : TypeId} {cs : Array Value} (size n : Nat) (h : Blk w B e cs) (hb : base ≤ B) (hn : cs.size = n * size) (hm : n ≤ maxLen) : w.ownsRow base e size (.slice (some ⟨B, 0, none⟩) n n) n cs.toList :=
  ⟨by rw [Array.length_toList, hn], .inr ⟨B, n, cs, rfl, hb, h, Nat.le_refl _, hm, hn, by rw [List.take_of_length_le (by rw [Array.length_toList, hn]; exact Nat.le_refl _)]⟩⟩
theorem own_form {w : World} {base n size : Nat} {e : TypeId} {v : Value} {xs : List Value} (h : w.ownsRow base e size v n xs) (hn : 0 < n) :
    ∃ B cap, v = .slice (some ⟨B, 0, none⟩) n cap ∧ base ≤ B ∧ B < w.heap.size ∧ n ≤ cap ∧ ∀ k u, xs[k]? = some u → w.cell? ⟨B, k, none⟩ = some u := by
  have hc := fun g hg => h.cells (g := g) hg
  have hl := h.lt
  rcases h.2 with ⟨_, q⟩ | ⟨g, cap, cur, rfl, hg, hh, hcap, _⟩
  · omega
  · refine ⟨g, cap, rfl, hg, (hl g rfl).2, hcap, fun k u hu => ?_⟩
    have := hc g rfl k u hu
    rwa [add_zero_off] at this
theorem own_below {w w' : World} {base n size : Nat} {e : TypeId} {v : Value} {xs : List Value} (h : w.ownsRow base e size v n xs) (hb : Below w.heap.size w w') : w'.ownsRow base e size v n xs := by
  refine ⟨h.1, ?_⟩
  rcases h.2 with q | ⟨g, cap, cur, hv, hg, hh, q⟩
  · exact .inl q
  · refine .inr ⟨g, cap, cur, hv, hg, ?_, q⟩
    rw [hb.block g (h.lt g (by rw [hv]; rfl)).2]; exact hh
/-- an append to a row of the call's own: what lay below still stands -/
theorem own_grown {a w w' : World} {base B n size : Nat} {e : TypeId} {v : Value} {xs : List Value} (hb : Below B a w) (h : w.ownsRow base e size v n xs) (hg : w.grownBy w' v.ownBlock) (hB : B ≤ w.heap.size) (hBb : B ≤ base) : Below B a w' :=
  hb.grown hg hB fun k hk => Nat.le_trans hBb (h.lt k hk).1
theorem blk_grown {w w' : World} {base g n size : Nat} {e t : TypeId} {v : Value} {xs : List Value} {cs : Array Value} (hB : Blk w g t cs) (h : w.ownsRow base e size v n xs) (hg : w.grownBy w' v.ownBlock) (hlt : g < base) : Blk w' g t cs :=
  (hg.block g hB.lt fun q => by have := (h.lt g q.symm).1; omega).trans hB
end Go.Proofs.YtlideagcmhlkeaaDoor

/- Slices of rules as the walks read them: the saves of the rules. No function of the program. -/
namespace Go.Proofs.YtlideagcmhlkeaaDoor
open Go.RowKit
set_option linter.unusedVariables false

/-- a rule's cells -/
structure RV where
  name : ByteArray
  frm : Int
  til : Int
  month : Int
  dk : Int
  dw : Int
  dd : Int
  asec : Int
  abase : Int
  save : Int
  letter : ByteArray
def RV.cells (r : RV) : List Value := [.string r.name, .int .i64 r.frm, .int .i64 r.til, .int .i64 r.month, .int .i64 r.dk, .int .i64 r.dw, .int .i64 r.dd, .int .i64 r.asec, .int .i64 r.abase, .int .i64 r.save, .string r.letter]
/-- the slice holds these rules -/
def RulesIn (w : World) (A : Option Addr) (L : List RV) : Prop :=
  ∀ k r, L[k]? = some r → ∃ b o, A = some ⟨b, o, none⟩ ∧ b < w.heap.size ∧ ∀ j u, r.cells[j]? = some u → w.cell? ⟨b, o + k * 11 + j, none⟩ = some u
theorem RulesIn.below {w w' : World} {A : Option Addr} {L : List RV} (h : RulesIn w A L) (hb : Below w.heap.size w w') : RulesIn w' A L := by
  intro k r hr
  obtain ⟨b, o, hA, hlt, hc⟩ := h k r hr
  exact ⟨b, o, hA, Nat.lt_of_lt_of_le hlt hb.size, fun j u hu => (hb.cell (p := ⟨b, o + k * 11 + j, none⟩) hlt).trans (hc j u hu)⟩
theorem RulesIn.alloc {w : World} {A : Option Addr} {L : List RV} (h : RulesIn w A L) (ob : Obj) : RulesIn (w.alloc ob) A L := h.below ((Below.refl _ _).alloc (Nat.le_refl _) ob)
theorem RulesIn.nil (w : World) (A : Option Addr) : RulesIn w A [] := fun k r hr => by simp at hr
theorem RulesIn.drewN {w : World} {A : Option Addr} {L : List RV} (h : RulesIn w A L) (n : Nat) : RulesIn (w.drewN n) A L := h
end Go.Proofs.YtlideagcmhlkeaaDoor

/- A slice that comes in, read as a list of elements of some cells each (for the cards). No function of the program. -/
namespace Go.Proofs.YtlideagcmhlkeaaDoor
open Go.RowKit Go.ChangeShapes Go.WideShapes
set_option linter.unusedVariables false

/-- the slice holds these elements, of m cells each -/
def CellsIn {α : Type} (m : Nat) (f : α → List Value) (w : World) (A : Option Addr) (L : List α) : Prop :=
  ∀ k r, L[k]? = some r → ∃ b o, A = some ⟨b, o, none⟩ ∧ b < w.heap.size ∧ ∀ j u, (f r)[j]? = some u → w.cell? ⟨b, o + k * m + j, none⟩ = some u
theorem CellsIn.below {α : Type} {m : Nat} {f : α → List Value} {w w' : World} {A : Option Addr} {L : List α} (h : CellsIn m f w A L) (hb : Below w.heap.size w w') : CellsIn m f w' A L := by
  intro k r hr
  obtain ⟨b, o, hA, hlt, hc⟩ := h k r hr
  exact ⟨b, o, hA, Nat.lt_of_lt_of_le hlt hb.size, fun j u hu => (hb.cell (p := ⟨b, o + k * m + j, none⟩) hlt).trans (hc j u hu)⟩
theorem CellsIn.alloc {α : Type} {m : Nat} {f : α → List Value} {w : World} {A : Option Addr} {L : List α} (h : CellsIn m f w A L) (ob : Obj) : CellsIn m f (w.alloc ob) A L := h.below ((Below.refl _ _).alloc (Nat.le_refl _) ob)
theorem CellsIn.nil {α : Type} {m : Nat} {f : α → List Value} (w : World) (A : Option Addr) : CellsIn m f w A [] := fun k r hr => by simp at hr
theorem CellsIn.drewN {α : Type} {m : Nat} {f : α → List Value} {w : World} {A : Option Addr} {L : List α} (h : CellsIn m f w A L) (n : Nat) : CellsIn m f (w.drewN n) A L := h
section
variable {H : Type} {enc : TypeId × Value → H} {w : World} {base : Nat} {sp : Nat → Bool} {held : Bool}
theorem add_plain (b o : Nat) (k j : Nat) : ((⟨b, o, none⟩ : Addr).add k).add j = ⟨b, o + k + j, none⟩ := by
  unfold Addr.add
  by_cases hk : k = 0 <;> by_cases hj : j = 0 <;> simp [hk, hj]
/-- a slice that comes in, on the list of its cells (a field of a struct) -/
theorem open_cells {P : Program} {α : Type} {t e : TypeId} {m : Nat} {f : α → List Value} {Good : α → Prop} {fuel : Nat} {cs : List Value} {x : DataW H × List MemPlace} (ht : P.underlying t = some (.slice e)) (hC : P.cellsOf e = m) (h0 : 0 < m)
    (hopen : ∀ (fuel : Nat) (cs : List Value) (x : DataW H × List MemPlace), cs.length = m → DataW.trod enc P w base sp held fuel e cs = some x → ∃ r : α, cs = f r ∧ Good r)
    (hf : DataW.trod enc P w base sp held fuel t cs = some x) :
    ∃ (A : Option Addr) (c : Nat) (L : List α), cs = [.slice A L.length c] ∧ L.length ≤ maxLen ∧ CellsIn m f w A L ∧ ∀ r ∈ L, Good r := by
  rcases Go.Deep.open_slice ht hf with ⟨h0', _⟩ | ⟨a, len, cap, m', n, D, Pl, hcs, hb, hl, hm, hmm, hx, hi⟩
  · exact ⟨none, 0, [], h0', Nat.zero_le _, CellsIn.nil _ _, fun r hr => by simp at hr⟩
  · have hlm : len ≤ m' := by rw [hmm]; split <;> omega
    have key : ∀ i, i < len → ∃ r : α, Good r ∧ (f r).length = m ∧ ∀ j u, (f r)[j]? = some u → w.cell? ((a.add (i * m)).add j) = some u := by
      intro i hil
      obtain ⟨cs', hc, htt⟩ := hi i (by omega)
      rw [hC] at hc
      obtain ⟨_, hcl, hat⟩ := World.cells?_some hc
      obtain ⟨r, hr, hw⟩ := hopen _ _ _ hcl htt
      refine ⟨r, hw, by rw [← hr, hcl], fun j u hu => ?_⟩
      have hj : j < m := by rw [← hcl, hr]; exact (List.getElem?_eq_some_iff.mp hu).1
      rw [hat j hj, hr]; exact hu
    have key2 : ∃ L : List α, L.length = len ∧ ∀ i r, L[i]? = some r → Good r ∧ (f r).length = m ∧ ∀ j u, (f r)[j]? = some u → w.cell? ((a.add (i * m)).add j) = some u := by
      refine ⟨List.ofFn (fun i : Fin len => Classical.choose (key i.1 i.2)), by simp, fun i r hr => ?_⟩
      have hil : i < len := by have := (List.getElem?_eq_some_iff.mp hr).1; simpa using this
      rw [List.getElem?_ofFn, dif_pos hil] at hr
      injection hr with hr
      rw [← hr]
      exact Classical.choose_spec (key i hil)
    obtain ⟨L, hLl, hL⟩ := key2
    refine ⟨some a, cap, L, by rw [hLl]; exact hcs, by rw [hLl]; omega, fun k r hr => ?_, fun r hr => ?_⟩
    · have h00 : 0 < L.length := by have := (List.getElem?_eq_some_iff.mp hr).1; omega
      have hs : a.spot = none := by
        obtain ⟨_, hl0, q⟩ := hL 0 _ (List.getElem?_eq_getElem h00)
        have q0 := q 0 _ (List.getElem?_eq_getElem (by omega))
        rw [Nat.zero_mul] at q0
        exact World.cell?_spot (by simpa [Addr.add] using q0)
      obtain ⟨_, hl1, hk⟩ := hL k r hr
      obtain ⟨b, o, s⟩ := a
      simp only at hs
      subst hs
      refine ⟨b, o, rfl, ?_, fun j u hu => ?_⟩
      · have q := hk 0 _ (List.getElem?_eq_getElem (by omega))
        rw [add_plain] at q
        unfold World.cell? at q
        rcases Nat.lt_or_ge b w.heap.size with q' | q'
        · exact q'
        · rw [Array.getElem?_eq_none q'] at q; cases q
      · have := hk j u hu
        rwa [add_plain] at this
    · obtain ⟨k, hk⟩ := List.mem_iff_getElem?.1 hr
      exact (hL k r hk).1
end
end Go.Proofs.YtlideagcmhlkeaaDoor

/- Sources as values: rules, eras, zones, links; where their cells lie. No function of the program. -/
namespace Go.Proofs.YtlideagcmhlkeaaDoor
open Go.RowKit
set_option linter.unusedVariables false

/-- an era's cells -/
structure EV where
  off : Int
  kind : Int
  save : Int
  set : ByteArray
  fmt : ByteArray
  ui : Bool
  uy : Int
  um : Int
  dk : Int
  dw : Int
  dd : Int
  asec : Int
  ab : Int
def EV.cells (e : EV) : List Value := [.int .i64 e.off, .int .i64 e.kind, .int .i64 e.save, .string e.set, .string e.fmt, .bool e.ui, .int .i64 e.uy, .int .i64 e.um, .int .i64 e.dk, .int .i64 e.dw, .int .i64 e.dd, .int .i64 e.asec, .int .i64 e.ab]
/-- a link's cells -/
structure KV where
  target : ByteArray
  name : ByteArray
def KV.cells (k : KV) : List Value := [.string k.target, .string k.name]
/-- a zone's cells, and its eras -/
structure ZV where
  name : ByteArray
  A : Option Addr
  c : Nat
  eras : List EV
def ZV.cells (z : ZV) : List Value := [.string z.name, .slice z.A z.eras.length z.c]
/-- a source's cells, and its parts -/
structure SV where
  rA : Option Addr
  rc : Nat
  rules : List RV
  zA : Option Addr
  zc : Nat
  zones : List ZV
  kA : Option Addr
  kc : Nat
  links : List KV
  hA : Option Addr
  hc : Nat
  shifts : List ByteArray
def SV.agg (s : SV) : Array Value := #[.slice s.rA s.rules.length s.rc, .slice s.zA s.zones.length s.zc, .slice s.kA s.links.length s.kc, .slice s.hA s.shifts.length s.hc]
structure SrcIn (w : World) (s : SV) : Prop where
  rules : CellsIn 11 RV.cells w s.rA s.rules
  zones : CellsIn 2 ZV.cells w s.zA s.zones
  links : CellsIn 2 KV.cells w s.kA s.links
  shifts : CellsIn 1 (fun b : ByteArray => [Value.string b]) w s.hA s.shifts
  eras : ∀ z ∈ s.zones, CellsIn 13 EV.cells w z.A z.eras
theorem SrcIn.below {w w' : World} {s : SV} (h : SrcIn w s) (hb : Below w.heap.size w w') : SrcIn w' s :=
  ⟨h.rules.below hb, h.zones.below hb, h.links.below hb, h.shifts.below hb, fun z hz => (h.eras z hz).below hb⟩
end Go.Proofs.YtlideagcmhlkeaaDoor

/- Chapter 32 (reports) in plain Lean: what differs in rules and eras, the changes of two sources, their text. No function of the program. -/
namespace Go.Proofs.YtlideagcmhlkeaaDoor.P32
open Go.Proofs.YtlideagcmhlkeaaDoor
set_option linter.unusedVariables false

/-- a change -/
structure CV where
  part : Int
  index : Int
  era : Int
  what : Int
  deriving DecidableEq
def CV.cells (c : CV) : List Value := [.int .i64 c.part, .int .i64 c.index, .int .i64 c.era, .int .i64 c.what]
def diffR (a b : RV) : Int := (if a.save = b.save then 0 else 1) + (if a.asec = b.asec then 0 else 2)
def sameR (a b : RV) : Bool := decide (a.name = b.name ∧ a.frm = b.frm ∧ a.til = b.til ∧ a.month = b.month ∧ a.dk = b.dk ∧ a.dw = b.dw ∧ a.dd = b.dd ∧ a.abase = b.abase ∧ a.letter = b.letter)
def diffE (a b : EV) : Int := (if a.off = b.off then 0 else 4) + (if a.fmt = b.fmt then 0 else 8) + (if a.asec = b.asec then 0 else 16)
def sameE (a b : EV) : Bool := decide (a.kind = b.kind ∧ a.save = b.save ∧ a.set = b.set ∧ a.ui = b.ui ∧ a.uy = b.uy ∧ a.um = b.um ∧ a.dk = b.dk ∧ a.dw = b.dw ∧ a.dd = b.dd ∧ a.ab = b.ab)
/-- the changes of the first k elements -/
def ch {α : Type} (diff : α → α → Int) (mk : Nat → Int → CV) (A B : List α) (k : Nat) : List CV :=
  (List.range k).filterMap fun i => match A[i]?, B[i]? with
    | some a, some b => if diff a b = 0 then none else some (mk i (diff a b))
    | _, _ => none
def mkR (i : Nat) (d : Int) : CV := ⟨1, i, 0, d⟩
def mkE (z i : Nat) (d : Int) : CV := ⟨2, z, i, d⟩
/-- the first k elements have the same shape -/
def okTo {α : Type} (same : α → α → Bool) (A B : List α) (k : Nat) : Prop := ∀ i a b, i < k → A[i]? = some a → B[i]? = some b → same a b = true
def okAll {α : Type} (same : α → α → Bool) (A B : List α) : Prop := A.length = B.length ∧ okTo same A B A.length
theorem ch_zero {α : Type} (diff : α → α → Int) (mk : Nat → Int → CV) (A B : List α) : ch diff mk A B 0 = [] := rfl
theorem ch_succ {α : Type} (diff : α → α → Int) (mk : Nat → Int → CV) (A B : List α) (k : Nat) (a b : α) (ha : A[k]? = some a) (hb : B[k]? = some b) :
    ch diff mk A B (k + 1) = ch diff mk A B k ++ (if diff a b = 0 then [] else [mk k (diff a b)]) := by
  unfold ch
  rw [List.range_succ, List.filterMap_append]
  congr 1
  simp only [List.filterMap_cons, List.filterMap_nil, ha, hb]
  split <;> simp_all
theorem ch_len {α : Type} (diff : α → α → Int) (mk : Nat → Int → CV) (A B : List α) (k : Nat) : (ch diff mk A B k).length ≤ k := by
  unfold ch
  exact Nat.le_trans (List.length_filterMap_le _ _) (by rw [List.length_range]; exact Nat.le_refl _)
theorem okTo_zero {α : Type} (same : α → α → Bool) (A B : List α) : okTo same A B 0 := fun i a b h => by omega
theorem okTo_succ {α : Type} {same : α → α → Bool} {A B : List α} {k : Nat} {a b : α} (h : okTo same A B k) (ha : A[k]? = some a) (hb : B[k]? = some b) (hs : same a b = true) : okTo same A B (k + 1) := by
  intro i x y hi hx hy
  by_cases e : i < k
  · exact h i x y e hx hy
  · obtain rfl : i = k := by omega
    rw [ha] at hx; rw [hb] at hy
    injection hx with hx; injection hy with hy
    rw [← hx, ← hy]; exact hs
theorem okAll_not {α : Type} {same : α → α → Bool} {A B : List α} {k : Nat} {a b : α} (ha : A[k]? = some a) (hb : B[k]? = some b) (hs : same a b = false) : ¬ okAll same A B := by
  rintro ⟨_, h⟩
  have := h k a b (List.getElem?_eq_some_iff.mp ha).1 ha hb
  rw [hs] at this; cases this
/-- the changes of the zones up to n -/
def chZ (Z Y : List ZV) : Nat → List CV
  | 0 => []
  | n + 1 => chZ Z Y n ++ (match Z[n]?, Y[n]? with
    | some z, some y => ch diffE (mkE n) z.eras y.eras z.eras.length
    | _, _ => [])
def sameZ (z y : ZV) : Prop := z.name = y.name ∧ okAll sameE z.eras y.eras
def okZ (Z Y : List ZV) (k : Nat) : Prop := ∀ i z y, i < k → Z[i]? = some z → Y[i]? = some y → sameZ z y
/-- two sources have the same shape -/
def okS (a b : SV) : Prop := okAll sameR a.rules b.rules ∧ a.zones.length = b.zones.length ∧ okZ a.zones b.zones a.zones.length ∧ a.links = b.links
/-- all changes of two sources of the same shape -/
def chS (a b : SV) : List CV := ch diffR mkR a.rules b.rules a.rules.length ++ chZ a.zones b.zones a.zones.length

/-- the words of a change -/
def wordL (c : Bool) (s : List UInt8) : List UInt8 := if c then 32 :: s else []
def bit (w : Int) (b : Int) : Bool := decide (w / b % 2 ≠ 0)
def lineR (c : CV) : List UInt8 := [114, 117, 108, 101, 32] ++ Lib.decDigits c.index.toNat ++ wordL (bit c.what 1) [115, 97, 118, 101] ++ wordL (bit c.what 2) [97, 116] ++ [10]
def lineE (c : CV) : List UInt8 := [101, 114, 97, 32] ++ Lib.decDigits c.index.toNat ++ [32] ++ Lib.decDigits c.era.toNat ++ wordL (bit c.what 4) [111, 102, 102] ++ wordL (bit c.what 8) [102, 111, 114, 109, 97, 116] ++ wordL (bit c.what 16) [117, 110, 116, 105, 108] ++ [10]
def rightR (c : CV) : Prop := c.part = 1 ∧ 0 ≤ c.index ∧ c.era = 0 ∧ 1 ≤ c.what ∧ c.what ≤ 3
def rightE (c : CV) : Prop := c.part = 2 ∧ 0 ≤ c.index ∧ 0 ≤ c.era ∧ 4 ≤ c.what ∧ c.what ≤ 28 ∧ c.what % 4 = 0
instance (c : CV) : Decidable (rightR c) := by unfold rightR; infer_instance
instance (c : CV) : Decidable (rightE c) := by unfold rightE; infer_instance
def line (c : CV) : List UInt8 := if c.part = 1 then lineR c else lineE c
def right (c : CV) : Prop := rightR c ∨ rightE c
instance (c : CV) : Decidable (right c) := by unfold right; infer_instance
def text (l : List CV) : List UInt8 × Int := if ∀ c ∈ l, right c then (l.flatMap line, 0) else ([], 2)
end Go.Proofs.YtlideagcmhlkeaaDoor.P32

/- Rules, eras, links, days and times are compared field by field: what the comparison answers. -/
namespace Go.Proofs.YtlideagcmhlkeaaDoor
open Go.RowKit
set_option linter.unusedVariables false
set_option linter.unusedSimpArgs false

theorem toList_eq_iff (a b : ByteArray) : (a.toList = b.toList) ↔ a = b := by
  constructor
  · intro h
    rw [ByteArray.toList_eq, ByteArray.toList_eq] at h
    exact ByteArray.ext (Array.ext' h)
  · rintro rfl; rfl
set_option maxRecDepth 100000 in
theorem eqi_day (d : Nat) (w : World) (a0 : Int) (a1 : Int) (a2 : Int) (b0 : Int) (b1 : Int) (b2 : Int) : (Op.equalIn (d + 2) 41 (.agg #[.int .i64 a0, .int .i64 a1, .int .i64 a2]) (.agg #[.int .i64 b0, .int .i64 b1, .int .i64 b2])).run Tryd.prog w = .ok (decide (a0 = b0 ∧ a1 = b1 ∧ a2 = b2)) w := by
  have p0 : Tryd.prog.stoodInHeld 41 = false := by kernel_rfl
  rw [run_equalIn_agg w (d + 1) 41 _ _ (by unfold Program.fieldsOf; rw [Tryd.underlying41]) p0]
  unfold Program.fieldsOf
  rw [Tryd.underlying41]
  simp [Op.eqFields, go_sem, Tryd.underlying3, toList_eq_iff]
  by_cases h0 : a0 = b0
  rotate_left
  · simp [h0]
  by_cases h1 : a1 = b1
  rotate_left
  · simp [h1]
  by_cases h2 : a2 = b2
  rotate_left
  · simp [h2]
  simp [h0, h1, h2]
set_option maxRecDepth 100000 in
theorem eqi_clock (d : Nat) (w : World) (a0 : Int) (a1 : Int) (b0 : Int) (b1 : Int) : (Op.equalIn (d + 2) 43 (.agg #[.int .i64 a0, .int .i64 a1]) (.agg #[.int .i64 b0, .int .i64 b1])).run Tryd.prog w = .ok (decide (a0 = b0 ∧ a1 = b1)) w := by
  have p0 : Tryd.prog.stoodInHeld 43 = false := by kernel_rfl
  rw [run_equalIn_agg w (d + 1) 43 _ _ (by unfold Program.fieldsOf; rw [Tryd.underlying43]) p0]
  unfold Program.fieldsOf
  rw [Tryd.underlying43]
  simp [Op.eqFields, go_sem, Tryd.underlying2, Tryd.underlying3, toList_eq_iff]
  by_cases h0 : a0 = b0
  rotate_left
  · simp [h0]
  by_cases h1 : a1 = b1
  rotate_left
  · simp [h1]
  simp [h0, h1]
set_option maxRecDepth 100000 in
theorem eqi_rule (d : Nat) (w : World) (a0 : ByteArray) (a1 : Int) (a2 : Int) (a3 : Int) (a4 : Int) (a5 : Int) (a6 : Int) (a7 : Int) (a8 : Int) (a9 : Int) (a10 : ByteArray) (b0 : ByteArray) (b1 : Int) (b2 : Int) (b3 : Int) (b4 : Int) (b5 : Int) (b6 : Int) (b7 : Int) (b8 : Int) (b9 : Int) (b10 : ByteArray) : (Op.equalIn (d + 4) 83 (.agg #[.string a0, .int .i64 a1, .int .i64 a2, .int .i64 a3, .int .i64 a4, .int .i64 a5, .int .i64 a6, .int .i64 a7, .int .i64 a8, .int .i64 a9, .string a10]) (.agg #[.string b0, .int .i64 b1, .int .i64 b2, .int .i64 b3, .int .i64 b4, .int .i64 b5, .int .i64 b6, .int .i64 b7, .int .i64 b8, .int .i64 b9, .string b10])).run Tryd.prog w = .ok (decide (a0 = b0 ∧ a1 = b1 ∧ a2 = b2 ∧ a3 = b3 ∧ a4 = b4 ∧ a5 = b5 ∧ a6 = b6 ∧ a7 = b7 ∧ a8 = b8 ∧ a9 = b9 ∧ a10 = b10)) w := by
  have p0 : Tryd.prog.stoodInHeld 83 = false := by kernel_rfl
  rw [run_equalIn_agg w (d + 3) 83 _ _ (by unfold Program.fieldsOf; rw [Tryd.underlying83]) p0]
  unfold Program.fieldsOf
  rw [Tryd.underlying83]
  simp [Op.eqFields, go_sem, Tryd.underlying9, Tryd.underlying3, Tryd.underlying2, Tryd.underlying41, Tryd.underlying43, eqi_day, eqi_clock, toList_eq_iff]
  by_cases h0 : a0 = b0
  rotate_left
  · simp [h0]
  by_cases h1 : a1 = b1
  rotate_left
  · simp [h1]
  by_cases h2 : a2 = b2
  rotate_left
  · simp [h2]
  by_cases h3 : a3 = b3
  rotate_left
  · simp [h3]
  by_cases h4 : a4 = b4
  rotate_left
  · simp [h4]
  by_cases h5 : a5 = b5
  rotate_left
  · simp [h5]
  by_cases h6 : a6 = b6
  rotate_left
  · simp [h6]
  by_cases h7 : a7 = b7
  rotate_left
  · simp [h7]
  by_cases h8 : a8 = b8
  rotate_left
  · simp [h8]
  by_cases h9 : a9 = b9
  rotate_left
  · simp [h9]
  by_cases h10 : a10 = b10
  rotate_left
  · simp [h10]
  simp [h0, h1, h2, h3, h4, h5, h6, h7, h8, h9, h10]
theorem eql_rule (w : World) (a0 : ByteArray) (a1 : Int) (a2 : Int) (a3 : Int) (a4 : Int) (a5 : Int) (a6 : Int) (a7 : Int) (a8 : Int) (a9 : Int) (a10 : ByteArray) (b0 : ByteArray) (b1 : Int) (b2 : Int) (b3 : Int) (b4 : Int) (b5 : Int) (b6 : Int) (b7 : Int) (b8 : Int) (b9 : Int) (b10 : ByteArray) : (binOp .eql 83 (.agg #[.string a0, .int .i64 a1, .int .i64 a2, .int .i64 a3, .int .i64 a4, .int .i64 a5, .int .i64 a6, .int .i64 a7, .int .i64 a8, .int .i64 a9, .string a10]) (.agg #[.string b0, .int .i64 b1, .int .i64 b2, .int .i64 b3, .int .i64 b4, .int .i64 b5, .int .i64 b6, .int .i64 b7, .int .i64 b8, .int .i64 b9, .string b10])).run Tryd.prog w = .ok (.bool (decide (a0 = b0 ∧ a1 = b1 ∧ a2 = b2 ∧ a3 = b3 ∧ a4 = b4 ∧ a5 = b5 ∧ a6 = b6 ∧ a7 = b7 ∧ a8 = b8 ∧ a9 = b9 ∧ a10 = b10))) w := by
  rw [run_eql_struct, eqi_rule 9996]; rfl
set_option maxRecDepth 100000 in
theorem eqi_until (d : Nat) (w : World) (a0 : Bool) (a1 : Int) (a2 : Int) (a3 : Int) (a4 : Int) (a5 : Int) (a6 : Int) (a7 : Int) (b0 : Bool) (b1 : Int) (b2 : Int) (b3 : Int) (b4 : Int) (b5 : Int) (b6 : Int) (b7 : Int) : (Op.equalIn (d + 4) 45 (.agg #[.bool a0, .int .i64 a1, .int .i64 a2, .int .i64 a3, .int .i64 a4, .int .i64 a5, .int .i64 a6, .int .i64 a7]) (.agg #[.bool b0, .int .i64 b1, .int .i64 b2, .int .i64 b3, .int .i64 b4, .int .i64 b5, .int .i64 b6, .int .i64 b7])).run Tryd.prog w = .ok (decide (a0 = b0 ∧ a1 = b1 ∧ a2 = b2 ∧ a3 = b3 ∧ a4 = b4 ∧ a5 = b5 ∧ a6 = b6 ∧ a7 = b7)) w := by
  have p0 : Tryd.prog.stoodInHeld 45 = false := by kernel_rfl
  rw [run_equalIn_agg w (d + 3) 45 _ _ (by unfold Program.fieldsOf; rw [Tryd.underlying45]) p0]
  unfold Program.fieldsOf
  rw [Tryd.underlying45]
  simp [Op.eqFields, go_sem, Tryd.underlying4, Tryd.underlying3, Tryd.underlying2, Tryd.underlying41, Tryd.underlying43, eqi_day, eqi_clock, toList_eq_iff]
  by_cases h0 : a0 = b0
  rotate_left
  · simp [h0]
  by_cases h1 : a1 = b1
  rotate_left
  · simp [h1]
  by_cases h2 : a2 = b2
  rotate_left
  · simp [h2]
  by_cases h3 : a3 = b3
  rotate_left
  · simp [h3]
  by_cases h4 : a4 = b4
  rotate_left
  · simp [h4]
  by_cases h5 : a5 = b5
  rotate_left
  · simp [h5]
  by_cases h6 : a6 = b6
  rotate_left
  · simp [h6]
  by_cases h7 : a7 = b7
  rotate_left
  · simp [h7]
  simp [h0, h1, h2, h3, h4, h5, h6, h7]
set_option maxRecDepth 100000 in
theorem eqi_era (d : Nat) (w : World) (a0 : Int) (a1 : Int) (a2 : Int) (a3 : ByteArray) (a4 : ByteArray) (a5 : Bool) (a6 : Int) (a7 : Int) (a8 : Int) (a9 : Int) (a10 : Int) (a11 : Int) (a12 : Int) (b0 : Int) (b1 : Int) (b2 : Int) (b3 : ByteArray) (b4 : ByteArray) (b5 : Bool) (b6 : Int) (b7 : Int) (b8 : Int) (b9 : Int) (b10 : Int) (b11 : Int) (b12 : Int) : (Op.equalIn (d + 6) 47 (.agg #[.int .i64 a0, .int .i64 a1, .int .i64 a2, .string a3, .string a4, .bool a5, .int .i64 a6, .int .i64 a7, .int .i64 a8, .int .i64 a9, .int .i64 a10, .int .i64 a11, .int .i64 a12]) (.agg #[.int .i64 b0, .int .i64 b1, .int .i64 b2, .string b3, .string b4, .bool b5, .int .i64 b6, .int .i64 b7, .int .i64 b8, .int .i64 b9, .int .i64 b10, .int .i64 b11, .int .i64 b12])).run Tryd.prog w = .ok (decide (a0 = b0 ∧ a1 = b1 ∧ a2 = b2 ∧ a3 = b3 ∧ a4 = b4 ∧ a5 = b5 ∧ a6 = b6 ∧ a7 = b7 ∧ a8 = b8 ∧ a9 = b9 ∧ a10 = b10 ∧ a11 = b11 ∧ a12 = b12)) w := by
  have p0 : Tryd.prog.stoodInHeld 47 = false := by kernel_rfl
  rw [run_equalIn_agg w (d + 5) 47 _ _ (by unfold Program.fieldsOf; rw [Tryd.underlying47]) p0]
  unfold Program.fieldsOf
  rw [Tryd.underlying47]
  simp [Op.eqFields, go_sem, Tryd.underlying9, Tryd.underlying3, Tryd.underlying2, Tryd.underlying45, eqi_until, toList_eq_iff]
  by_cases h0 : a0 = b0
  rotate_left
  · simp [h0]
  by_cases h1 : a1 = b1
  rotate_left
  · simp [h1]
  by_cases h2 : a2 = b2
  rotate_left
  · simp [h2]
  by_cases h3 : a3 = b3
  rotate_left
  · simp [h3]
  by_cases h4 : a4 = b4
  rotate_left
  · simp [h4]
  by_cases h5 : a5 = b5
  rotate_left
  · simp [h5]
  by_cases h6 : a6 = b6
  rotate_left
  · simp [h6]
  by_cases h7 : a7 = b7
  rotate_left
  · simp [h7]
  by_cases h8 : a8 = b8
  rotate_left
  · simp [h8]
  by_cases h9 : a9 = b9
  rotate_left
  · simp [h9]
  by_cases h10 : a10 = b10
  rotate_left
  · simp [h10]
  by_cases h11 : a11 = b11
  rotate_left
  · simp [h11]
  by_cases h12 : a12 = b12
  rotate_left
  · simp [h12]
  simp [h0, h1, h2, h3, h4, h5, h6, h7, h8, h9, h10, h11, h12]
theorem eql_era (w : World) (a0 : Int) (a1 : Int) (a2 : Int) (a3 : ByteArray) (a4 : ByteArray) (a5 : Bool) (a6 : Int) (a7 : Int) (a8 : Int) (a9 : Int) (a10 : Int) (a11 : Int) (a12 : Int) (b0 : Int) (b1 : Int) (b2 : Int) (b3 : ByteArray) (b4 : ByteArray) (b5 : Bool) (b6 : Int) (b7 : Int) (b8 : Int) (b9 : Int) (b10 : Int) (b11 : Int) (b12 : Int) : (binOp .eql 47 (.agg #[.int .i64 a0, .int .i64 a1, .int .i64 a2, .string a3, .string a4, .bool a5, .int .i64 a6, .int .i64 a7, .int .i64 a8, .int .i64 a9, .int .i64 a10, .int .i64 a11, .int .i64 a12]) (.agg #[.int .i64 b0, .int .i64 b1, .int .i64 b2, .string b3, .string b4, .bool b5, .int .i64 b6, .int .i64 b7, .int .i64 b8, .int .i64 b9, .int .i64 b10, .int .i64 b11, .int .i64 b12])).run Tryd.prog w = .ok (.bool (decide (a0 = b0 ∧ a1 = b1 ∧ a2 = b2 ∧ a3 = b3 ∧ a4 = b4 ∧ a5 = b5 ∧ a6 = b6 ∧ a7 = b7 ∧ a8 = b8 ∧ a9 = b9 ∧ a10 = b10 ∧ a11 = b11 ∧ a12 = b12))) w := by
  rw [run_eql_struct, eqi_era 9994]; rfl
end Go.Proofs.YtlideagcmhlkeaaDoor

/- strings.Builder's WriteString and WriteByte, laid at this program (the command does not lay them where no body names the empty interface). -/
namespace Go.Proofs.YtlideagcmhlkeaaDoor
open Go.RowKit
set_option linter.unusedVariables false

def bldRen : Go.Shelf.Ren := ⟨fun | 166 => 100 | 167 => 101 | 240 => 116 | 276 => 131 | n => n, fun | 0 => 0 | 3 => 3 | 4 => 4 | 5 => 5 | 9 => 9 | 20 => 20 | 37 => 24 | 70 => 156 | 72 => 158 | 75 => 161 | 80 => 167 | 164 => 193 | n => n, fun | n => n⟩
theorem bld166 : Go.Proofs.Lays.n166 Tryd.prog bldRen := {
  mixed := by kernel_rfl
  f166 := Tryd.func100.trans (congrArg some (by kernel_rfl))
  f240 := Tryd.func116.trans (congrArg some (by kernel_rfl))
  f276 := Tryd.func131.trans (congrArg some (by kernel_rfl))
  t0 := Tryd.underlying0
  a0 := Tryd.isAgg0
  z0 := Tryd.sizeOf0
  v0 := Tryd.zeroValue0
  t3 := Tryd.underlying3
  a3 := Tryd.isAgg3
  z3 := Tryd.sizeOf3
  v3 := Tryd.zeroValue3
  t4 := Tryd.underlying4
  a4 := Tryd.isAgg4
  z4 := Tryd.sizeOf4
  v4 := Tryd.zeroValue4
  t9 := Tryd.underlying9
  a9 := Tryd.isAgg9
  z9 := Tryd.sizeOf9
  v9 := Tryd.zeroValue9
  t20 := Tryd.underlying20
  a20 := Tryd.isAgg20
  z20 := Tryd.sizeOf20
  v20 := Tryd.zeroValue20
  t37 := Tryd.underlying24
  a37 := Tryd.isAgg24
  z37 := Tryd.sizeOf24
  v37 := Tryd.zeroValue24
  t70 := Tryd.underlying156
  a70 := Tryd.isAgg156
  z70 := Tryd.sizeOf156
  v70 := Tryd.zeroValue156
  t72 := Tryd.underlying158
  a72 := Tryd.isAgg158
  z72 := Tryd.sizeOf158
  v72 := Tryd.zeroValue158
  t75 := Tryd.underlying161
  a75 := Tryd.isAgg161
  z75 := Tryd.sizeOf161
  v75 := Tryd.zeroValue161
  t164 := Tryd.underlying193
  a164 := Tryd.isAgg193
  z164 := Tryd.sizeOf193
  v164 := Tryd.zeroValue193 }
theorem bld167 : Go.Proofs.Lays.n167 Tryd.prog bldRen := {
  mixed := by kernel_rfl
  f167 := Tryd.func101.trans (congrArg some (by kernel_rfl))
  f240 := Tryd.func116.trans (congrArg some (by kernel_rfl))
  f276 := Tryd.func131.trans (congrArg some (by kernel_rfl))
  t0 := Tryd.underlying0
  a0 := Tryd.isAgg0
  z0 := Tryd.sizeOf0
  v0 := Tryd.zeroValue0
  t4 := Tryd.underlying4
  a4 := Tryd.isAgg4
  z4 := Tryd.sizeOf4
  v4 := Tryd.zeroValue4
  t5 := Tryd.underlying5
  a5 := Tryd.isAgg5
  z5 := Tryd.sizeOf5
  v5 := Tryd.zeroValue5
  t9 := Tryd.underlying9
  a9 := Tryd.isAgg9
  z9 := Tryd.sizeOf9
  v9 := Tryd.zeroValue9
  t20 := Tryd.underlying20
  a20 := Tryd.isAgg20
  z20 := Tryd.sizeOf20
  v20 := Tryd.zeroValue20
  t37 := Tryd.underlying24
  a37 := Tryd.isAgg24
  z37 := Tryd.sizeOf24
  v37 := Tryd.zeroValue24
  t70 := Tryd.underlying156
  a70 := Tryd.isAgg156
  z70 := Tryd.sizeOf156
  v70 := Tryd.zeroValue156
  t72 := Tryd.underlying158
  a72 := Tryd.isAgg158
  z72 := Tryd.sizeOf158
  v72 := Tryd.zeroValue158
  t75 := Tryd.underlying161
  a75 := Tryd.isAgg161
  z75 := Tryd.sizeOf161
  v75 := Tryd.zeroValue161
  t164 := Tryd.underlying193
  a164 := Tryd.isAgg193
  z164 := Tryd.sizeOf193
  v164 := Tryd.zeroValue193 }
theorem bldExtra : Builder.Extra Tryd.prog bldRen := {
  sizeBuilder := by kernel_rfl
  liesBuilder := by kernel_rfl
  t5 := Tryd.underlying5
  a5 := Tryd.isAgg5
  z5 := Tryd.sizeOf5
  v5 := Tryd.zeroValue5
  infoByte := by kernel_rfl
  cellsByte := by kernel_rfl
  sizeByte := by kernel_rfl
  neB5 := by decide }
/-- the builder in block b holds these bytes -/
def Bld (w : World) (B b : Nat) (l : List UInt8) : Prop := Lib.IsBuilderF 158 5 B b (Lib.byteCells l) w
theorem write_str (B b : Nat) (l s : List UInt8) (w : World) (h : Bld w B b l) (hl : l.length + s.length ≤ 140737488355328) (hB : B ≤ w.heap.size) :
    Calls Tryd.prog 100 #[.pointer (some ⟨b, 0, none⟩), .string (str s)] w fun e w' => e = .returned (.tuple #[.int .i64 s.length, .nilIface]) ∧ Bld w' B b (l ++ s) ∧ Below B w w' ∧ Lib.OthersKept 5 (some b) w w' := by
  refine (Any.Builder_WriteString_k bld166 bldExtra B b (Lib.byteCells l) (str s) w h (by rw [Lib.byteCells_length]; exact hl) hB).mono ?_
  rintro e w' ⟨rfl, h1, h2, h3⟩
  have e1 : Lib.byteCells l ++ Lib.strCells (str s) = Lib.byteCells (l ++ s) := by simp [Lib.byteCells, Lib.strCells, str]
  rw [e1] at h1
  exact ⟨rfl, .inr h1, h2, h3⟩
theorem write_byte (B b : Nat) (l : List UInt8) (c : UInt8) (w : World) (h : Bld w B b l) (hl : l.length + 1 ≤ 140737488355328) (hB : B ≤ w.heap.size) :
    Calls Tryd.prog 101 #[.pointer (some ⟨b, 0, none⟩), .int .u8 (c.toNat : Int)] w fun e w' => e = .returned .nilIface ∧ Bld w' B b (l ++ [c]) ∧ Below B w w' ∧ Lib.OthersKept 5 (some b) w w' := by
  refine (Any.Builder_WriteByte_k bld167 bldExtra B b (Lib.byteCells l) (c.toNat : Int) w h (by rw [Lib.byteCells_length]; exact hl) hB).mono ?_
  rintro e w' ⟨rfl, h1, h2, h3⟩
  have e1 : Lib.byteCells l ++ [.int .u8 (c.toNat : Int)] = Lib.byteCells (l ++ [c]) := by simp [Lib.byteCells]
  rw [e1] at h1
  exact ⟨rfl, .inr h1, h2, h3⟩
end Go.Proofs.YtlideagcmhlkeaaDoor

/-
  DERIVED: THE SHELF's CONTRACTS AT THIS DUMP, IN PLAIN WORDS (tools/lay-plain.mjs out of 'YtlideagcmhlkeaaDoorShelfRaw.lean', which tools/lay-shelf.mjs wrote): THE SAME DECLARATIONS UNDER THE SAME NAMES: 'import', 'namespace', 'open', 'def', 'theorem' AND NOTHING ELSE: no command of the shelf's: FOR A HAND-IN. Each laying: the table of numbers ('.._ren') and one theorem, a field a fact of the dump's own or the kernel's comparison; each contract: ONE APPLICATION.
-/
namespace Go.Proofs
open Go.Shelf
def Tryd.laysM171_ren : Go.Shelf.Ren := ⟨fun | 171 => 45 | 243 => 81 | 246 => 105 | 283 => 117 | 284 => 118 | 285 => 119 | 286 => 120 | 129 => 133 | 317 => 132 | 318 => 134 | 319 => 135 | 320 => 136 | 337 => 149 | 338 => 150 | n => n, fun | 3 => 3 | 9 => 9 | 2 => 2 | 4 => 4 | 171 => 185 | 0 => 0 | 53 => 178 | 37 => 24 | 5 => 5 | 173 => 188 | 212 => 196 | 51 => 197 | 20 => 20 | 213 => 198 | 46 => 184 | 232 => 215 | 233 => 216 | n => n, fun | 17 => 2 | 18 => 5 | 19 => 6 | n => n⟩
theorem Tryd.laysM171 : Go.Proofs.LaysM.n171 Tryd.prog Tryd.laysM171_ren := {
  mixed := by kernel_rfl
  f129 := Tryd.func133.trans (congrArg some (by kernel_rfl))
  f171 := Tryd.func45.trans (congrArg some (by kernel_rfl))
  f243 := Tryd.func81.trans (congrArg some (by kernel_rfl))
  f246 := Tryd.func105.trans (congrArg some (by kernel_rfl))
  f283 := Tryd.func117.trans (congrArg some (by kernel_rfl))
  f284 := Tryd.func118.trans (congrArg some (by kernel_rfl))
  f285 := Tryd.func119.trans (congrArg some (by kernel_rfl))
  f286 := Tryd.func120.trans (congrArg some (by kernel_rfl))
  f317 := Tryd.func132.trans (congrArg some (by kernel_rfl))
  f318 := Tryd.func134.trans (congrArg some (by kernel_rfl))
  f319 := Tryd.func135.trans (congrArg some (by kernel_rfl))
  f320 := Tryd.func136.trans (congrArg some (by kernel_rfl))
  f337 := Tryd.func149.trans (congrArg some (by kernel_rfl))
  f338 := Tryd.func150.trans (congrArg some (by kernel_rfl))
  t0 := Tryd.underlying0
  a0 := Tryd.isAgg0
  z0 := Tryd.sizeOf0
  v0 := Tryd.zeroValue0
  t2 := Tryd.underlying2
  a2 := Tryd.isAgg2
  z2 := Tryd.sizeOf2
  v2 := Tryd.zeroValue2
  t3 := Tryd.underlying3
  a3 := Tryd.isAgg3
  z3 := Tryd.sizeOf3
  v3 := Tryd.zeroValue3
  t4 := Tryd.underlying4
  a4 := Tryd.isAgg4
  z4 := Tryd.sizeOf4
  v4 := Tryd.zeroValue4
  t5 := Tryd.underlying5
  a5 := Tryd.isAgg5
  z5 := Tryd.sizeOf5
  v5 := Tryd.zeroValue5
  t9 := Tryd.underlying9
  a9 := Tryd.isAgg9
  z9 := Tryd.sizeOf9
  v9 := Tryd.zeroValue9
  t20 := Tryd.underlying20
  a20 := Tryd.isAgg20
  z20 := Tryd.sizeOf20
  v20 := Tryd.zeroValue20
  t37 := Tryd.underlying24
  a37 := Tryd.isAgg24
  z37 := Tryd.sizeOf24
  v37 := Tryd.zeroValue24
  t46 := Tryd.underlying184
  a46 := Tryd.isAgg184
  z46 := Tryd.sizeOf184
  v46 := Tryd.zeroValue184
  t51 := Tryd.underlying197
  a51 := Tryd.isAgg197
  z51 := Tryd.sizeOf197
  v51 := Tryd.zeroValue197
  t53 := Tryd.underlying178
  a53 := Tryd.isAgg178
  z53 := Tryd.sizeOf178
  v53 := Tryd.zeroValue178
  t171 := Tryd.underlying185
  a171 := Tryd.isAgg185
  z171 := Tryd.sizeOf185
  v171 := Tryd.zeroValue185
  t173 := Tryd.underlying188
  a173 := Tryd.isAgg188
  z173 := Tryd.sizeOf188
  v173 := Tryd.zeroValue188
  t212 := Tryd.underlying196
  a212 := Tryd.isAgg196
  z212 := Tryd.sizeOf196
  v212 := Tryd.zeroValue196
  t213 := Tryd.underlying198
  a213 := Tryd.isAgg198
  z213 := Tryd.sizeOf198
  t232 := Tryd.underlying215
  a232 := Tryd.isAgg215
  z232 := Tryd.sizeOf215
  v232 := Tryd.zeroValue215
  t233 := Tryd.underlying216
  a233 := Tryd.isAgg216
  z233 := Tryd.sizeOf216
  v233 := Tryd.zeroValue216
  g17 := by kernel_rfl
  g18 := by kernel_rfl
  g19 := by kernel_rfl
  i0 := by kernel_rfl
  i2 := by kernel_rfl
  i3 := by kernel_rfl
  i4 := by kernel_rfl
  i5 := by kernel_rfl
  i9 := by kernel_rfl
  i20 := by kernel_rfl
  i37 := by kernel_rfl
  i46 := by kernel_rfl
  i51 := by kernel_rfl
  i53 := by kernel_rfl
  i171 := by kernel_rfl
  i173 := by kernel_rfl
  i212 := by kernel_rfl
  i232 := by kernel_rfl
  i233 := by kernel_rfl
  m17 := by kernel_rfl
  m18 := by kernel_rfl
  m19 := by kernel_rfl }
open Go.RowKit Go.Sort Go.Lib in
/-- strconv.Itoa: "Itoa is equivalent to FormatInt(int64(i), 10).": i's DECIMAL NUMERAL ('Lib.itoa': a '-' where i is negative, then the digits), FOR EVERY int. The world behind the call: the world before it, new blocks behind the heap (the library's 'var a [24]byte'), draws. (LAID: no walk: one application.) -/
theorem Tryd.strconv_Itoa (n : Int) (h0 : -9223372036854775808 ≤ n) (h1 : n ≤ 9223372036854775807) (w : World) (htab : Lib.TabIs Tryd.prog w "internal/strconv.uint64pow10" .u64 Lib.pow10Tab) :
    Calls Tryd.prog 45 #[.int .i64 n] w fun e w' => e = .returned (.string ⟨(Lib.itoa n).toArray⟩) ∧ ∃ k os, w' = grow (w.drewN k) os := Any.strconv_Itoa Tryd.laysM171 n h0 h1 w htab
end Go.Proofs

/- The walks of report.right, report.sum and of the small functions of the reference (chapter 32). -/
namespace Go.Proofs.YtlideagcmhlkeaaDoor
open Go.RowKit
set_option linter.unusedVariables false

set_option maxRecDepth 100000 in
set_option maxHeartbeats 4000000 in
theorem right_any (p i e x : Int) (R : Bool) (hR : R = decide (P32.right ⟨p, i, e, x⟩)) (w : World) (i64 : -9223372036854775808 ≤ x ∧ x ≤ 9223372036854775807) :
    Calls Tryd.prog 99 #[.agg #[.int .i64 p, .int .i64 i, .int .i64 e, .int .i64 x]] w fun en w' => en = .returned (.bool R) ∧ Below w.heap.size w w' := by
  obtain ⟨x0, x1⟩ := i64
  have HR := Lib.hid hR
  clear hR
  by_cases p1 : p = 1
  · have bp : (p == 1) = true := by simp [p1]
    by_cases c0 : 0 ≤ i
    rotate_left
    · skip
      obtain rfl : R = false := HR.out.trans (decide_eq_false (by simp only [P32.right, P32.rightR, P32.rightE]; omega))
      clear HR
      go_enter Tryd.func99, Tryd.ntmps99
      go_wp2_with fail
      go_ret
      exact ⟨rfl, (Below.refl w.heap.size w).alloc (Nat.le_refl _) _⟩
    by_cases c1 : e = 0
    rotate_left
    · have d1 : (e == 0) = false := by simp [c1]
      obtain rfl : R = false := HR.out.trans (decide_eq_false (by simp only [P32.right, P32.rightR, P32.rightE]; omega))
      clear HR
      go_enter Tryd.func99, Tryd.ntmps99
      go_wp2_with fail
      go_ret
      exact ⟨rfl, (Below.refl w.heap.size w).alloc (Nat.le_refl _) _⟩
    have d1 : (e == 0) = true := by simp [c1]
    by_cases c2 : 0 < x
    rotate_left
    · skip
      obtain rfl : R = false := HR.out.trans (decide_eq_false (by simp only [P32.right, P32.rightR, P32.rightE]; omega))
      clear HR
      go_enter Tryd.func99, Tryd.ntmps99
      go_wp2_with fail
      go_ret
      exact ⟨rfl, (Below.refl w.heap.size w).alloc (Nat.le_refl _) _⟩
    by_cases c3 : x < 4
    rotate_left
    · skip
      obtain rfl : R = false := HR.out.trans (decide_eq_false (by simp only [P32.right, P32.rightR, P32.rightE]; omega))
      clear HR
      go_enter Tryd.func99, Tryd.ntmps99
      go_wp2_with fail
      go_ret
      exact ⟨rfl, (Below.refl w.heap.size w).alloc (Nat.le_refl _) _⟩
    obtain rfl : R = true := HR.out.trans (decide_eq_true (by simp only [P32.right, P32.rightR, P32.rightE]; omega))
    clear HR
    go_enter Tryd.func99, Tryd.ntmps99
    go_wp2_with fail
    go_ret
    exact ⟨rfl, (Below.refl w.heap.size w).alloc (Nat.le_refl _) _⟩
  · have bp : (p == 1) = false := by simp [p1]
    by_cases p2 : p = 2
    · have bp2 : (p == 2) = true := by simp [p2]
      by_cases c0 : 0 ≤ i
      rotate_left
      · skip
        obtain rfl : R = false := HR.out.trans (decide_eq_false (by simp only [P32.right, P32.rightR, P32.rightE]; omega))
        clear HR
        go_enter Tryd.func99, Tryd.ntmps99
        go_wp2_with fail
        go_ret
        exact ⟨rfl, (Below.refl w.heap.size w).alloc (Nat.le_refl _) _⟩
      by_cases c1 : 0 ≤ e
      rotate_left
      · skip
        obtain rfl : R = false := HR.out.trans (decide_eq_false (by simp only [P32.right, P32.rightR, P32.rightE]; omega))
        clear HR
        go_enter Tryd.func99, Tryd.ntmps99
        go_wp2_with fail
        go_ret
        exact ⟨rfl, (Below.refl w.heap.size w).alloc (Nat.le_refl _) _⟩
      by_cases c2 : 0 < x
      rotate_left
      · skip
        obtain rfl : R = false := HR.out.trans (decide_eq_false (by simp only [P32.right, P32.rightR, P32.rightE]; omega))
        clear HR
        go_enter Tryd.func99, Tryd.ntmps99
        go_wp2_with fail
        go_ret
        exact ⟨rfl, (Below.refl w.heap.size w).alloc (Nat.le_refl _) _⟩
      by_cases c3 : x < 32
      rotate_left
      · skip
        obtain rfl : R = false := HR.out.trans (decide_eq_false (by simp only [P32.right, P32.rightR, P32.rightE]; omega))
        clear HR
        go_enter Tryd.func99, Tryd.ntmps99
        go_wp2_with fail
        go_ret
        exact ⟨rfl, (Below.refl w.heap.size w).alloc (Nat.le_refl _) _⟩
      by_cases c4 : x % 4 = 0
      rotate_left
      · have d4 : (x % 4 == 0) = false := by simp [c4]
        obtain rfl : R = false := HR.out.trans (decide_eq_false (by simp only [P32.right, P32.rightR, P32.rightE]; omega))
        clear HR
        go_enter Tryd.func99, Tryd.ntmps99
        go_wp2_with fail
        go_ret
        exact ⟨rfl, (Below.refl w.heap.size w).alloc (Nat.le_refl _) _⟩
      have d4 : (x % 4 == 0) = true := by simp [c4]
      obtain rfl : R = true := HR.out.trans (decide_eq_true (by simp only [P32.right, P32.rightR, P32.rightE]; omega))
      clear HR
      go_enter Tryd.func99, Tryd.ntmps99
      go_wp2_with fail
      go_ret
      exact ⟨rfl, (Below.refl w.heap.size w).alloc (Nat.le_refl _) _⟩
    · have bp2 : (p == 2) = false := by simp [p2]
      obtain rfl : R = false := HR.out.trans (decide_eq_false (by simp only [P32.right, P32.rightR, P32.rightE]; omega))
      clear HR
      go_enter Tryd.func99, Tryd.ntmps99
      go_wp2_with fail
      go_ret
      exact ⟨rfl, (Below.refl w.heap.size w).alloc (Nat.le_refl _) _⟩

theorem dec_len (k : Nat) : ∀ n : Nat, n < 10 ^ (k + 1) → (Lib.decDigits n).length ≤ k + 1 := by
  induction k with
  | zero => intro n h; rw [Lib.decDigits, dif_pos (by simpa using h)]; simp
  | succ k ih =>
    intro n h
    rw [Lib.decDigits]
    by_cases h10 : n < 10
    · rw [dif_pos h10]; simp
    · rw [dif_neg h10, List.length_append]
      have := ih (n / 10) (by rw [Nat.pow_succ] at h; omega)
      simp only [List.length_singleton]
      omega
theorem dec_le (n : Nat) (h : n ≤ 9223372036854775807) : (Lib.decDigits n).length ≤ 19 := dec_len 18 n (by omega)

end Go.Proofs.YtlideagcmhlkeaaDoor

/- The walks of the reference's Text and of report.Text (chapter 32). -/
namespace Go.Proofs.YtlideagcmhlkeaaDoor
open Go.RowKit
set_option linter.unusedVariables false

/-- a slice of changes -/
def ChIn (w : World) (A : Option Addr) (L : List P32.CV) : Prop := CellsIn 4 P32.CV.cells w A L
def ChOk (L : List P32.CV) : Prop := ∀ c ∈ L, (-9223372036854775808 ≤ c.part ∧ c.part ≤ 9223372036854775807) ∧ (-9223372036854775808 ≤ c.index ∧ c.index ≤ 9223372036854775807) ∧ (-9223372036854775808 ≤ c.era ∧ c.era ≤ 9223372036854775807) ∧ (-9223372036854775808 ≤ c.what ∧ c.what ≤ 9223372036854775807)
theorem wordL_len (b : Bool) (s : List UInt8) : (P32.wordL b s).length ≤ s.length + 1 := by
  unfold P32.wordL
  split <;> simp
theorem flat_take {α : Type} (f : α → List UInt8) (L : List α) (k : Nat) (c : α) (h : L[k]? = some c) : (L.take (k + 1)).flatMap f = (L.take k).flatMap f ++ f c := by
  rw [List.take_add_one, h, List.flatMap_append]
  simp
theorem line_len (c : P32.CV) (h1 : c.index ≤ 9223372036854775807) (h2 : c.era ≤ 9223372036854775807) : (P32.line c).length ≤ 100 := by
  have d1 := dec_le c.index.toNat (by omega)
  have d2 := dec_le c.era.toNat (by omega)
  unfold P32.line
  split
  · unfold P32.lineR
    have w1 := wordL_len (P32.bit c.what 1) [115, 97, 118, 101]
    have w2 := wordL_len (P32.bit c.what 2) [97, 116]
    simp only [List.length_append, List.length_cons, List.length_nil] at *
    omega
  · unfold P32.lineE
    have w1 := wordL_len (P32.bit c.what 4) [111, 102, 102]
    have w2 := wordL_len (P32.bit c.what 8) [102, 111, 114, 109, 97, 116]
    have w3 := wordL_len (P32.bit c.what 16) [117, 110, 116, 105, 108]
    simp only [List.length_append, List.length_cons, List.length_nil] at *
    omega
theorem flat_len (L : List P32.CV) (h : ChOk L) : (L.flatMap P32.line).length ≤ L.length * 100 := by
  induction L with
  | nil => simp
  | cons c L ih =>
    have h1 := h c (List.mem_cons_self ..)
    have := line_len c h1.2.1.2 h1.2.2.1.2
    have := ih (fun d hd => h d (List.mem_cons_of_mem _ hd))
    rw [List.flatMap_cons, List.length_append, List.length_cons]
    omega
theorem text_no {L : List P32.CV} {k : Nat} {c : P32.CV} (h : L[k]? = some c) (hc : ¬ P32.right c) : P32.text L = ([], 2) := if_neg (fun q => hc (q c (List.mem_of_getElem? h)))
theorem text_ok {L : List P32.CV} (h : ∀ c ∈ L, P32.right c) : P32.text L = (L.flatMap P32.line, 0) := if_pos h
theorem all_upto {L : List P32.CV} (h : ∀ j c, j < L.length → L[j]? = some c → P32.right c) : ∀ c ∈ L, P32.right c := fun c hc => by
  obtain ⟨j, hj⟩ := List.mem_iff_getElem?.1 hc
  exact h j c (List.getElem?_eq_some_iff.mp hj).1 hj

/-- the right changes of the first k -/
def RtTo (L : List P32.CV) (k : Nat) : Prop := ∀ j c, j < k → L[j]? = some c → P32.right c
theorem RtTo.succ {L : List P32.CV} {k : Nat} {c : P32.CV} (h : RtTo L k) (hc : L[k]? = some c) (hr : P32.right c) : RtTo L (k + 1) := by
  intro j d hj hd
  by_cases e : j < k
  · exact h j d e hd
  · obtain rfl : j = k := by omega
    rw [hc] at hd; injection hd with hd; rw [← hd]; exact hr
end Go.Proofs.YtlideagcmhlkeaaDoor

/- The walks of same, of slices.Equal at links and of Few (chapter 32). -/
namespace Go.Proofs.YtlideagcmhlkeaaDoor
open Go.RowKit
set_option linter.unusedVariables false
set_option linter.unusedSimpArgs false

theorem guard_any (op : BinOp) (t : TypeId) (ht : Tryd.prog.eqGuardType Tryd.prog.depth t = false) (x y : Operand) (xs ys : Array Value) (w : World) : (eqGuard op t x y (.agg xs) (.agg ys)).run Tryd.prog w = .ok () w := run_eqGuard_agg w op _ x y xs ys ht
theorem guard_change (op : BinOp) (x y : Operand) (xs ys : Array Value) (w : World) : (eqGuard op 87 x y (.agg xs) (.agg ys)).run Tryd.prog w = .ok () w := guard_any op _ (by kernel_rfl) x y xs ys w
theorem guard_link (op : BinOp) (x y : Operand) (xs ys : Array Value) (w : World) : (eqGuard op 94 x y (.agg xs) (.agg ys)).run Tryd.prog w = .ok () w := guard_any op _ (by kernel_rfl) x y xs ys w
theorem eqi_place (d : Nat) (w : World) (a0 a1 a2 b0 b1 b2 : Int) : (Op.equalIn (d + 2) 85 (.agg #[.int .i64 a0, .int .i64 a1, .int .i64 a2]) (.agg #[.int .i64 b0, .int .i64 b1, .int .i64 b2])).run Tryd.prog w = .ok (decide (a0 = b0 ∧ a1 = b1 ∧ a2 = b2)) w := by
  have p0 : Tryd.prog.stoodInHeld 85 = false := by kernel_rfl
  rw [run_equalIn_agg w (d + 1) 85 _ _ (by unfold Program.fieldsOf; rw [Tryd.underlying85]) p0]
  unfold Program.fieldsOf
  rw [Tryd.underlying85]
  simp [Op.eqFields, go_sem, Tryd.underlying3]
  by_cases h0 : a0 = b0
  rotate_left
  · simp [h0]
  by_cases h1 : a1 = b1
  rotate_left
  · simp [h1]
  by_cases h2 : a2 = b2
  rotate_left
  · simp [h2]
  simp [h0, h1, h2]
theorem neq_change (w : World) (a0 a1 a2 a3 b0 b1 b2 b3 : Int) : (binOp .neq 87 (.agg #[.int .i64 a0, .int .i64 a1, .int .i64 a2, .int .i64 a3]) (.agg #[.int .i64 b0, .int .i64 b1, .int .i64 b2, .int .i64 b3])).run Tryd.prog w = .ok (.bool (!decide (a0 = b0 ∧ a1 = b1 ∧ a2 = b2 ∧ a3 = b3))) w := by
  have p0 : Tryd.prog.stoodInHeld 87 = false := by kernel_rfl
  have q : (Op.equalIn 10000 87 (.agg #[.int .i64 a0, .int .i64 a1, .int .i64 a2, .int .i64 a3]) (.agg #[.int .i64 b0, .int .i64 b1, .int .i64 b2, .int .i64 b3])).run Tryd.prog w = .ok (decide (a0 = b0 ∧ a1 = b1 ∧ a2 = b2 ∧ a3 = b3)) w := by
    rw [run_equalIn_agg w 9999 87 _ _ (by unfold Program.fieldsOf; rw [Tryd.underlying87]) p0]
    unfold Program.fieldsOf
    rw [Tryd.underlying87]
    simp [Op.eqFields, go_sem, Tryd.underlying3, Tryd.underlying85, eqi_place]
    by_cases h0 : a0 = b0
    rotate_left
    · simp [h0]
    by_cases h1 : a1 = b1
    rotate_left
    · simp [h1]
    by_cases h2 : a2 = b2
    rotate_left
    · simp [h2]
    by_cases h3 : a3 = b3
    rotate_left
    · simp [h3]
    simp [h0, h1, h2, h3]
  rw [run_neq_struct, q]; rfl
theorem neq_link (w : World) (a0 a1 b0 b1 : ByteArray) : (binOp .neq 94 (.agg #[.string a0, .string a1]) (.agg #[.string b0, .string b1])).run Tryd.prog w = .ok (.bool (!decide (a0 = b0 ∧ a1 = b1))) w := by
  have p0 : Tryd.prog.stoodInHeld 94 = false := by kernel_rfl
  have q : (Op.equalIn 10000 94 (.agg #[.string a0, .string a1]) (.agg #[.string b0, .string b1])).run Tryd.prog w = .ok (decide (a0 = b0 ∧ a1 = b1)) w := by
    rw [run_equalIn_agg w 9999 94 _ _ (by unfold Program.fieldsOf; rw [Tryd.underlying94]) p0]
    unfold Program.fieldsOf
    rw [Tryd.underlying94]
    simp [Op.eqFields, go_sem, Tryd.underlying9, toList_eq_iff]
    by_cases h0 : a0 = b0
    rotate_left
    · simp [h0]
    by_cases h1 : a1 = b1
    rotate_left
    · simp [h1]
    simp [h0, h1]
  rw [run_neq_struct, q]; rfl
attribute [local go_sem high] neq_change neq_link guard_change guard_link
/-- two lists are alike up to a place -/
def alike {α : Type} (L M : List α) (k : Nat) : Prop := ∀ j, j < k → L[j]? = M[j]?
theorem alike_all {α : Type} {L M : List α} (h : L.length = M.length) (k : alike L M L.length) : L = M := by
  apply List.ext_getElem?
  intro j
  by_cases hj : j < L.length
  · exact k j hj
  · rw [List.getElem?_eq_none (by omega), List.getElem?_eq_none (by omega)]
theorem alike_succ {α : Type} {L M : List α} {k : Nat} (h : alike L M k) {a : α} (ha : L[k]? = some a) (hb : M[k]? = some a) : alike L M (k + 1) := fun j hj => by
  by_cases e : j < k
  · exact h j e
  · obtain rfl : j = k := by omega
    rw [ha, hb]

set_option maxRecDepth 100000 in
set_option maxHeartbeats 4000000 in
theorem same_any (A B : Option Addr) (ca cb : Nat) (L M : List P32.CV) (R : Bool) (w : World) (hR : R = true ↔ L = M) (hA : CellsIn 4 P32.CV.cells w A L) (hB : CellsIn 4 P32.CV.cells w B M) (hl : L.length ≤ 1000) (hm : M.length ≤ maxLen) :
    Calls Tryd.prog 43 #[.slice A L.length ca, .slice B M.length cb] w fun e w' => e = .returned (.bool R) ∧ Q w w' := by
  unfold maxLen at hm
  have HR := Lib.hid hR; have HA := Lib.hid hA; have HB := Lib.hid hB
  clear hR hA hB
  by_cases hnn : L.length = M.length
  rotate_left
  · have hb : ((L.length : Int) != (M.length : Int)) = true := by rw [bne_iff_ne]; omega
    obtain rfl : R = false := by
      cases R with
      | false => rfl
      | true => exact absurd (congrArg List.length (HR.out.1 rfl)) hnn
    clear hnn
    go_enter Tryd.func43, Tryd.ntmps43
    go_wp2_with fail
    go_ret
    exact ⟨rfl, Q.refl _⟩
  have hb : ((L.length : Int) != (M.length : Int)) = false := by rw [bne_eq_false_iff_eq]; omega
  have HN := Lib.hid hnn
  have hli : (L.length : Int) ≤ 1000 := by omega
  clear hnn
  go_enter Tryd.func43, Tryd.ntmps43
  go_wp2_with fail
  go_loopw [5] (fun i wr => ∃ k n : Nat, k ≤ L.length ∧ i = .int .i64 k ∧ Hid (alike L M k) ∧ w.drewN n = wr) (fun i _ => L.length - (intOf i).toNat)
  case atStart => exact ⟨0, 0, Nat.zero_le _, rfl, Lib.hid (fun j h => by omega), rfl⟩
  case round =>
    obtain ⟨k, n0, hk, rfl, hal, rfl⟩ := hrel
    by_cases hlt : k < L.length
    · obtain ⟨a, ha⟩ : ∃ a, L[k]? = some a := ⟨_, List.getElem?_eq_getElem hlt⟩
      obtain ⟨b, hbk⟩ : ∃ b, M[k]? = some b := ⟨_, List.getElem?_eq_getElem (by have := HN.out; omega)⟩
      obtain ⟨ga, oa, rfl, hga, hat⟩ := HA.out k a ha
      obtain ⟨gb, oB, rfl, hgb, hbt⟩ := HB.out k b hbk
      have HAK := Lib.hid ha; have HBK := Lib.hid hbk; have HAT := Lib.hid hat; have HBT := Lib.hid hbt
      have hki : (k : Int) < (L.length : Int) := by omega
      have hki2 : (k : Int) < (M.length : Int) := by have := HN.out; omega
      have hk0 : (0 : Int) ≤ (k : Int) := by omega
      clear ha hbk hat hbt
      obtain ⟨a0, a1, a2, a3⟩ := a
      obtain ⟨b0, b1, b2, b3⟩ := b
      have ca0 : w.cell? ⟨ga, oa + k * 4, none⟩ = some (.int .i64 a0) := HAT.out 0 _ rfl
      have ca1 : w.cell? ⟨ga, oa + k * 4 + 1, none⟩ = some (.int .i64 a1) := HAT.out 1 _ rfl
      have ca2 : w.cell? ⟨ga, oa + k * 4 + 2, none⟩ = some (.int .i64 a2) := HAT.out 2 _ rfl
      have ca3 : w.cell? ⟨ga, oa + k * 4 + 3, none⟩ = some (.int .i64 a3) := HAT.out 3 _ rfl
      have cb0 : w.cell? ⟨gb, oB + k * 4, none⟩ = some (.int .i64 b0) := HBT.out 0 _ rfl
      have cb1 : w.cell? ⟨gb, oB + k * 4 + 1, none⟩ = some (.int .i64 b1) := HBT.out 1 _ rfl
      have cb2 : w.cell? ⟨gb, oB + k * 4 + 2, none⟩ = some (.int .i64 b2) := HBT.out 2 _ rfl
      have cb3 : w.cell? ⟨gb, oB + k * 4 + 3, none⟩ = some (.int .i64 b3) := HBT.out 3 _ rfl
      obtain ⟨D, hD⟩ : ∃ D, decide (a0 = b0 ∧ a1 = b1 ∧ a2 = b2 ∧ a3 = b3) = D := ⟨_, rfl⟩
      have hnq : ∀ W, (binOp .neq 87 (.agg #[.int .i64 a0, .int .i64 a1, .int .i64 a2, .int .i64 a3]) (.agg #[.int .i64 b0, .int .i64 b1, .int .i64 b2, .int .i64 b3])).run Tryd.prog W = .ok (.bool (!D)) W := fun W => by rw [← hD]; exact neq_change W a0 a1 a2 a3 b0 b1 b2 b3
      have HD := Lib.hid hD
      clear hD HAT HBT
      cases D with
      | false =>
        obtain rfl : R = false := by
          cases R with
          | false => rfl
          | true =>
            have e := HR.out.1 rfl
            have q := HAK.out.symm.trans ((congrArg (fun z => z[k]?) e).trans HBK.out)
            injection q with q; injection q with q0 q1 q2 q3
            exact absurd ⟨q0, q1, q2, q3⟩ (of_decide_eq_false HD.out)
        clear HD HAK HBK hal
        go_wp2_with fail
        go_quiet (fail)
        go_wp2_with fail
        go_ret
        exact ⟨rfl, _, World.drewN_drewN _ _ _⟩
      | true =>
        have HAL : Hid (alike L M (k + 1)) := Lib.hid (by
          obtain ⟨q0, q1, q2, q3⟩ := of_decide_eq_true HD.out
          subst q0 q1 q2 q3
          exact alike_succ hal.out HAK.out HBK.out)
        clear HD HAK HBK hal
        go_wp2_with fail
        go_quiet (fail)
        go_wp2_with fail
        go_roundw
        case rel => exact ⟨k + 1, _, by omega, by go_num, HAL, rfl⟩
        case measure => simp [intOf]; omega
    · obtain rfl : k = L.length := by omega
      have hki : ¬ (L.length : Int) < (L.length : Int) := by omega
      obtain rfl : R = true := HR.out.2 (alike_all HN.out hal.out)
      go_wp2_with fail
      go_ret
      exact ⟨rfl, _, rfl⟩
set_option maxRecDepth 100000 in
set_option maxHeartbeats 4000000 in
theorem equal_any (A B : Option Addr) (ca cb : Nat) (L M : List KV) (R : Bool) (w : World) (hR : R = true ↔ L = M) (hA : CellsIn 2 KV.cells w A L) (hB : CellsIn 2 KV.cells w B M) (hl : L.length ≤ 1000) (hm : M.length ≤ maxLen) :
    Calls Tryd.prog 64 #[.slice A L.length ca, .slice B M.length cb] w fun e w' => e = .returned (.bool R) ∧ Q w w' := by
  unfold maxLen at hm
  have HR := Lib.hid hR; have HA := Lib.hid hA; have HB := Lib.hid hB
  clear hR hA hB
  by_cases hnn : L.length = M.length
  rotate_left
  · have hb : ((L.length : Int) != (M.length : Int)) = true := by rw [bne_iff_ne]; omega
    obtain rfl : R = false := by
      cases R with
      | false => rfl
      | true => exact absurd (congrArg List.length (HR.out.1 rfl)) hnn
    clear hnn
    go_enter Tryd.func64, Tryd.ntmps64
    go_wp2_with fail
    go_ret
    exact ⟨rfl, Q.refl _⟩
  have hb : ((L.length : Int) != (M.length : Int)) = false := by rw [bne_eq_false_iff_eq]; omega
  have HN := Lib.hid hnn
  have hli : (L.length : Int) ≤ 1000 := by omega
  clear hnn
  go_enter Tryd.func64, Tryd.ntmps64
  go_wp2_with fail
  go_loopw [13] (fun i wr => ∃ k n : Nat, k ≤ L.length ∧ i = .int .i64 k ∧ Hid (alike L M k) ∧ w.drewN n = wr) (fun i _ => L.length - (intOf i).toNat)
  case atStart => exact ⟨0, 0, Nat.zero_le _, rfl, Lib.hid (fun j h => by omega), rfl⟩
  case round =>
    obtain ⟨k, n0, hk, rfl, hal, rfl⟩ := hrel
    by_cases hlt : k < L.length
    · obtain ⟨a, ha⟩ : ∃ a, L[k]? = some a := ⟨_, List.getElem?_eq_getElem hlt⟩
      obtain ⟨b, hbk⟩ : ∃ b, M[k]? = some b := ⟨_, List.getElem?_eq_getElem (by have := HN.out; omega)⟩
      obtain ⟨ga, oa, rfl, hga, hat⟩ := HA.out k a ha
      obtain ⟨gb, oB, rfl, hgb, hbt⟩ := HB.out k b hbk
      have HAK := Lib.hid ha; have HBK := Lib.hid hbk; have HAT := Lib.hid hat; have HBT := Lib.hid hbt
      have hki : (k : Int) < (L.length : Int) := by omega
      have hki2 : (k : Int) < (M.length : Int) := by have := HN.out; omega
      have hk0 : (0 : Int) ≤ (k : Int) := by omega
      clear ha hbk hat hbt
      obtain ⟨a0, a1⟩ := a
      obtain ⟨b0, b1⟩ := b
      have ca0 : w.cell? ⟨ga, oa + k * 2, none⟩ = some (.string a0) := HAT.out 0 _ rfl
      have ca1 : w.cell? ⟨ga, oa + k * 2 + 1, none⟩ = some (.string a1) := HAT.out 1 _ rfl
      have cb0 : w.cell? ⟨gb, oB + k * 2, none⟩ = some (.string b0) := HBT.out 0 _ rfl
      have cb1 : w.cell? ⟨gb, oB + k * 2 + 1, none⟩ = some (.string b1) := HBT.out 1 _ rfl
      obtain ⟨D, hD⟩ : ∃ D, decide (a0 = b0 ∧ a1 = b1) = D := ⟨_, rfl⟩
      have hnq : ∀ W, (binOp .neq 94 (.agg #[.string a0, .string a1]) (.agg #[.string b0, .string b1])).run Tryd.prog W = .ok (.bool (!D)) W := fun W => by rw [← hD]; exact neq_link W a0 a1 b0 b1
      have HD := Lib.hid hD
      clear hD HAT HBT
      cases D with
      | false =>
        obtain rfl : R = false := by
          cases R with
          | false => rfl
          | true =>
            have e := HR.out.1 rfl
            have q := HAK.out.symm.trans ((congrArg (fun z => z[k]?) e).trans HBK.out)
            injection q with q; injection q with q0 q1
            exact absurd ⟨q0, q1⟩ (of_decide_eq_false HD.out)
        clear HD HAK HBK hal
        go_wp2_with fail
        go_quiet (fail)
        go_wp2_with fail
        go_ret
        exact ⟨rfl, _, World.drewN_drewN _ _ _⟩
      | true =>
        have HAL : Hid (alike L M (k + 1)) := Lib.hid (by
          obtain ⟨q0, q1⟩ := of_decide_eq_true HD.out
          subst q0 q1
          exact alike_succ hal.out HAK.out HBK.out)
        clear HD HAK HBK hal
        go_wp2_with fail
        go_quiet (fail)
        go_wp2_with fail
        go_roundw
        case rel => exact ⟨k + 1, _, by omega, by go_num, HAL, rfl⟩
        case measure => simp [intOf]; omega
    · obtain rfl : k = L.length := by omega
      have hki : ¬ (L.length : Int) < (L.length : Int) := by omega
      obtain rfl : R = true := HR.out.2 (alike_all HN.out hal.out)
      go_wp2_with fail
      go_ret
      exact ⟨rfl, _, rfl⟩
/-- few parts -/
def few (s : SV) : Prop := s.rules.length ≤ 40 ∧ s.zones.length ≤ 10 ∧ s.links.length ≤ 40 ∧ s.shifts.length ≤ 40 ∧ ∀ z ∈ s.zones, z.eras.length ≤ 20
set_option maxRecDepth 100000 in
set_option maxHeartbeats 4000000 in
theorem few_any (s : SV) (R : Bool) (w : World) (hR : R = true ↔ few s) (hS : SrcIn w s) :
    Calls Tryd.prog 39 #[.agg #[.slice s.rA s.rules.length s.rc, .slice s.zA s.zones.length s.zc, .slice s.kA s.links.length s.kc, .slice s.hA s.shifts.length s.hc]] w fun e w' => e = .returned (.bool R) ∧ Below w.heap.size w w' := by
  have HR := Lib.hid hR
  have hb0 := (Below.refl w.heap.size w).alloc (Nat.le_refl _) (.cells #[.slice s.rA s.rules.length s.rc, .slice s.zA s.zones.length s.zc, .slice s.kA s.links.length s.kc, .slice s.hA s.shifts.length s.hc] 32)
  have hB0 := Blk.new w 32 #[.slice s.rA s.rules.length s.rc, .slice s.zA s.zones.length s.zc, .slice s.kA s.links.length s.kc, .slice s.hA s.shifts.length s.hc]
  have k0 := (hB0.cell 0).trans rfl
  have k1 := (hB0.cell 1).trans rfl
  have k2 := (hB0.cell 2).trans rfl
  have k3 := (hB0.cell 3).trans rfl
  have HZ := Lib.hid hS.zones
  clear hR hS hB0
  by_cases h0 : (40 : Int) < (s.rules.length : Int)
  · exact (by
    obtain rfl : R = false := by
      cases R with
      | false => rfl
      | true =>
        obtain ⟨q0, q1, q2, q3, q4⟩ := HR.out.1 rfl
        omega
    clear HR HZ hb0
    go_enter Tryd.func39, Tryd.ntmps39
    go_wp2_with fail
    go_ret
    exact ⟨rfl, (Below.refl w.heap.size w).alloc (Nat.le_refl _) _⟩)
  by_cases h1 : (10 : Int) < (s.zones.length : Int)
  · exact (by
    obtain rfl : R = false := by
      cases R with
      | false => rfl
      | true =>
        obtain ⟨q0, q1, q2, q3, q4⟩ := HR.out.1 rfl
        omega
    clear HR HZ hb0
    go_enter Tryd.func39, Tryd.ntmps39
    go_wp2_with fail
    go_ret
    exact ⟨rfl, (Below.refl w.heap.size w).alloc (Nat.le_refl _) _⟩)
  by_cases h2 : (40 : Int) < (s.links.length : Int)
  · exact (by
    obtain rfl : R = false := by
      cases R with
      | false => rfl
      | true =>
        obtain ⟨q0, q1, q2, q3, q4⟩ := HR.out.1 rfl
        omega
    clear HR HZ hb0
    go_enter Tryd.func39, Tryd.ntmps39
    go_wp2_with fail
    go_ret
    exact ⟨rfl, (Below.refl w.heap.size w).alloc (Nat.le_refl _) _⟩)
  by_cases h3 : (40 : Int) < (s.shifts.length : Int)
  · exact (by
    obtain rfl : R = false := by
      cases R with
      | false => rfl
      | true =>
        obtain ⟨q0, q1, q2, q3, q4⟩ := HR.out.1 rfl
        omega
    clear HR HZ hb0
    go_enter Tryd.func39, Tryd.ntmps39
    go_wp2_with fail
    go_ret
    exact ⟨rfl, (Below.refl w.heap.size w).alloc (Nat.le_refl _) _⟩)
  have hz10 : (s.zones.length : Int) ≤ 10 := by omega
  go_enter Tryd.func39, Tryd.ntmps39
  go_wp2_with fail
  go_loop [3] (fun i => ∃ k : Nat, k ≤ s.zones.length ∧ i = .int .i64 k ∧ Hid (∀ j z, j < k → s.zones[j]? = some z → z.eras.length ≤ 20)) (fun i => s.zones.length - (intOf i).toNat)
  case atStart => exact ⟨0, Nat.zero_le _, rfl, Lib.hid (fun j z h => by omega)⟩
  case round =>
    obtain ⟨k, hk, rfl, hal⟩ := hrel
    by_cases hlt : k < s.zones.length
    · obtain ⟨z, hz⟩ : ∃ z, s.zones[k]? = some z := ⟨_, List.getElem?_eq_getElem hlt⟩
      obtain ⟨g, o, hA, hg, hat⟩ := HZ.out k z hz
      have a1 := hat 1 _ rfl
      rw [hA] at k1 ⊢
      have hki : (k : Int) < (s.zones.length : Int) := by omega
      by_cases h20 : (20 : Int) < (z.eras.length : Int)
      · obtain rfl : R = false := by
          cases R with
          | false => rfl
          | true => exact absurd ((HR.out.1 rfl).2.2.2.2 z (List.mem_of_getElem? hz)) (by omega)
        clear hat hz hal
        go_wp2_with fail
        go_ret
        exact ⟨rfl, (Below.refl w.heap.size w).alloc (Nat.le_refl _) _⟩
      · have HAL : Hid (∀ j z, j < k + 1 → s.zones[j]? = some z → z.eras.length ≤ 20) := Lib.hid (fun j y hj hy => by
          by_cases e : j < k
          · exact hal.out j y e hy
          · obtain rfl : j = k := by omega
            rw [hz] at hy; injection hy with hy; rw [← hy]; omega)
        clear hat hz hal
        go_wp2_with fail
        go_round
        case rel => exact ⟨k + 1, by omega, by go_num, HAL⟩
        case measure => simp [intOf]; omega
    · obtain rfl : k = s.zones.length := by omega
      have hki : ¬ (s.zones.length : Int) < (s.zones.length : Int) := by omega
      obtain rfl : R = true := HR.out.2 ⟨by omega, by omega, by omega, by omega, fun z hz => by
        obtain ⟨j, hj⟩ := List.mem_iff_getElem?.1 hz
        exact hal.out j z (List.getElem?_eq_some_iff.mp hj).1 hj⟩
      go_wp2_with fail
      go_ret
      exact ⟨rfl, (Below.refl w.heap.size w).alloc (Nat.le_refl _) _⟩
end Go.Proofs.YtlideagcmhlkeaaDoor

/- append(nil, x...): a copy in a row of its own, whatever slice x is. No function of the program. -/
namespace Go.Proofs.YtlideagcmhlkeaaDoor
open Go.RowKit
set_option linter.unusedVariables false

section
variable {P : Program} {w : World}
theorem run_append_zero (t ty e : TypeId) (i : TypeInfo) (ht : P.underlying t = some (.slice e)) (hi : P.info? e = some i) (A : Option Addr) (c : Nat) :
    (Builtin.append_ #[t, t] ty #[.slice none 0 0, .slice A 0 c]).run P w = .ok (.slice none 0 0) w := by
  cases A with
  | none => simp [Builtin.append_, run_underlying ht, sizeOf, typeInfo, hi, Builtin.lenOf, Builtin.firstCells]
  | some a => simp [Builtin.append_, run_underlying ht, sizeOf, typeInfo, hi, Builtin.lenOf, Builtin.firstCells, loadCells, loadCellsFrom]
theorem row_is {base n size : Nat} {e : TypeId} {v : Value} {xs : List Value} (h : w.ownsRow base e size v n xs) : ∃ A c, v = .slice A n c := by
  rcases h.2 with ⟨rfl, rfl⟩ | ⟨g, cap, cur, rfl, _⟩
  · exact ⟨_, _, rfl⟩
  · exact ⟨_, _, rfl⟩
theorem wp_append_copy {o : Oper} {a : Act} {K : Act → World → Prop} {Q : Exit → Act → World → Prop} (s x : Operand) (t : TypeId)
    (ho : o.op = .call { callee := .builtin .append, args := #[s, x], argTypes := #[t, t] })
    (base : Nat) (e : TypeId) (i : TypeInfo) (z : Value) (size bytes : Nat) (ht : P.underlying t = some (.slice e)) (hi : P.info? e = some i) (hz : i.zero = some z)
    (hsize : i.size = size) (hby : i.bytes = bytes) (hzs : z.cells.size = size) (hsz : 0 < size) (hs : a.eval s = .slice none 0 0)
    (A : Option Addr) (m c : Nat) (news : List Value) (hx : a.eval x = .slice A m c) (hl : news.length = m * size) (hnews : ∀ j u, news[j]? = some u → ∃ b of_, A = some ⟨b, of_, none⟩ ∧ w.cell? ⟨b, of_ + j, none⟩ = some u) (h1 : ∀ u ∈ news, u.oneCell' = true)
    (h63 : m ≤ maxLen) (hbytes : m * bytes ≤ 140737488355328) (hbase : base ≤ w.heap.size)
    (h : ∀ A' c' w', w'.ownsRow base e size (.slice A' m c') m news → w.grownBy w' none → K (a.put o.dst (.slice A' m c')) w') : o.wp P a w K Q := by
  by_cases hm : m = 0
  · subst hm
    have hn : news = [] := List.eq_nil_of_length_eq_zero (by rw [hl]; exact Nat.zero_mul _)
    subst hn
    have hrun := run_append_zero (P := P) (w := w) t o.type e i ht hi A c
    have q := h none 0 w ⟨by simp, .inl ⟨rfl, rfl⟩⟩ (World.grownBy.refl w none)
    unfold Oper.wp
    simp [execOp, ho, resolve, invoke, builtin, hs, hx, hrun, Result.andThen]
    exact q
  · have hpos : 0 < news.length := by rw [hl]; exact Nat.mul_pos (by omega) hsz
    obtain ⟨b, of_, rfl, _⟩ := hnews 0 _ (List.getElem?_eq_getElem hpos)
    refine wp_append_own w s x t ho base e i z size bytes ht hi hz hsize hby hzs hsz (.slice none 0 0) 0 [] hs ⟨by simp, .inl ⟨rfl, rfl⟩⟩ ⟨b, of_, none⟩ m c news hx hl (fun j u hu => ?_) h1 (by omega) (by rw [Nat.zero_add]; exact hbytes) hbase (fun v' w' h2 h3 _ => ?_)
    · obtain ⟨b', o', e', hc⟩ := hnews j u hu
      injection e' with e'
      injection e' with e1 e2
      subst e1 e2
      rw [show (⟨b, of_, none⟩ : Addr).add j = ⟨b, of_ + j, none⟩ by unfold Addr.add; split <;> simp_all]
      exact hc
    · rw [Nat.zero_add, List.nil_append] at h2
      obtain ⟨A', c', rfl⟩ := row_is h2
      exact h A' c' w' h2 h3
theorem wpList_append_copy {ops : Array Oper} {rest : List Oper} {o : Oper} {a : Act} {Q : Exit → Act → World → Prop} (hgd : o.guard = none) (s x : Operand) (t : TypeId)
    (ho : o.op = .call { callee := .builtin .append, args := #[s, x], argTypes := #[t, t] })
    (base : Nat) (e : TypeId) (i : TypeInfo) (z : Value) (size bytes : Nat) (ht : P.underlying t = some (.slice e)) (hi : P.info? e = some i) (hz : i.zero = some z)
    (hsize : i.size = size) (hby : i.bytes = bytes) (hzs : z.cells.size = size) (hsz : 0 < size) (hs : a.eval s = .slice none 0 0)
    (A : Option Addr) (m c : Nat) (news : List Value) (hx : a.eval x = .slice A m c) (hl : news.length = m * size) (hnews : ∀ j u, news[j]? = some u → ∃ b of_, A = some ⟨b, of_, none⟩ ∧ w.cell? ⟨b, of_ + j, none⟩ = some u) (h1 : ∀ u ∈ news, u.oneCell' = true)
    (h63 : m ≤ maxLen) (hbytes : m * bytes ≤ 140737488355328) (hbase : base ≤ w.heap.size)
    (h : ∀ A' c' w', w'.ownsRow base e size (.slice A' m c') m news → w.grownBy w' none → wpList P ops Q rest (a.put o.dst (.slice A' m c')) w') : wpList P ops Q (o :: rest) a w :=
  wpList_plain hgd fun _ hK => wp_append_copy s x t ho base e i z size bytes ht hi hz hsize hby hzs hsz hs A m c news hx hl hnews h1 h63 hbytes hbase fun A' c' w' h2 h3 => hK _ _ (h A' c' w' h2 h3)
/-- the same in a region that draws its order -/
theorem step_append_copy {ops : Array Oper} {o : Oper} {a : Act} {K : Act → World → Prop} {Q : Exit → Act → World → Prop} {E : Prop} (hgd : o.guard = none) (s x : Operand) (t : TypeId)
    (ho : o.op = .call { callee := .builtin .append, args := #[s, x], argTypes := #[t, t] })
    (base : Nat) (e : TypeId) (i : TypeInfo) (z : Value) (size bytes : Nat) (ht : P.underlying t = some (.slice e)) (hi : P.info? e = some i) (hz : i.zero = some z)
    (hsize : i.size = size) (hby : i.bytes = bytes) (hzs : z.cells.size = size) (hsz : 0 < size) (hs : a.eval s = .slice none 0 0)
    (A : Option Addr) (m c : Nat) (news : List Value) (hx : a.eval x = .slice A m c) (hl : news.length = m * size) (hnews : ∀ j u, news[j]? = some u → ∃ b of_, A = some ⟨b, of_, none⟩ ∧ w.cell? ⟨b, of_ + j, none⟩ = some u) (h1 : ∀ u ∈ news, u.oneCell' = true)
    (h63 : m ≤ maxLen) (hbytes : m * bytes ≤ 140737488355328) (hbase : base ≤ w.heap.size)
    (h : ∀ A' c' w', w'.ownsRow base e size (.slice A' m c') m news → w.grownBy w' none → K (a.put o.dst (.slice A' m c')) w') :
    if Region.wanted o (yielded ops a.tmps) = true then Oper.wp P o a w K Q else E := by
  have hw : Region.wanted o (yielded ops a.tmps) = true := by simp [Region.wanted, hgd]
  rw [if_pos hw]
  exact wp_append_copy s x t ho base e i z size bytes ht hi hz hsize hby hzs hsz hs A m c news hx hl hnews h1 h63 hbytes hbase h
end
end Go.Proofs.YtlideagcmhlkeaaDoor

/- Blocks whose first cells are known, written in place; '[]byte(s)'. No function of the program. -/
namespace Go.Proofs.YtlideagcmhlkeaaDoor
open Go.RowKit
set_option linter.unusedVariables false

/-- the first cells of block g are these, none of them frozen -/
def Cs (W : World) (g : Nat) (xs : List Value) : Prop :=
  ∃ cur t fz, W.heap[g]? = some (.cells cur t fz) ∧ (∀ j, j < xs.length → cur[j]? = xs[j]?) ∧ ∀ j, j < xs.length → ¬ (fz.1 ≤ j ∧ j < fz.2)
section
variable {W W' : World} {g : Nat} {xs : List Value}
theorem Cs.lt (h : Cs W g xs) : g < W.heap.size := by
  obtain ⟨cur, t, fz, h1, _⟩ := h
  rcases Nat.lt_or_ge g W.heap.size with hlt | hge
  · exact hlt
  · rw [Array.getElem?_eq_none hge] at h1; cases h1
theorem Cs.cell (h : Cs W g xs) (j : Nat) (u : Value) (hu : xs[j]? = some u) : W.cell? ⟨g, j, none⟩ = some u := by
  obtain ⟨cur, t, fz, h1, h2, _⟩ := h
  rw [cell_of_row W g j cur t fz h1, h2 j (List.getElem?_eq_some_iff.mp hu).1, hu]
theorem Cs.frozen (h : Cs W g xs) (j : Nat) (hj : j < xs.length) : W.frozen? ⟨g, j, none⟩ = false := by
  obtain ⟨cur, t, fz, h1, _, h3⟩ := h
  have := h3 j hj
  simp only [World.frozen?, h1]
  simpa using this
theorem Cs.below {B : Nat} (h : Cs W g xs) (hb : Below B W W') (hg : g < B) : Cs W' g xs := by
  obtain ⟨cur, t, fz, h1, h2⟩ := h
  exact ⟨cur, t, fz, (hb.block g hg).trans h1, h2⟩
theorem Cs.belowS (h : Cs W g xs) (hb : Below W.heap.size W W') : Cs W' g xs := h.below hb h.lt
theorem Cs.alloc (h : Cs W g xs) (o : Obj) : Cs (W.alloc o) g xs := h.belowS ((Below.refl _ _).alloc (Nat.le_refl _) o)
theorem Cs.drewN (h : Cs W g xs) (n : Nat) : Cs (W.drewN n) g xs := h
theorem Cs.set_ (h : Cs W g xs) (i : Nat) (u : Value) : Cs (W.setCell ⟨g, i, none⟩ u) g (xs.set i u) := by
  obtain ⟨cur, t, fz, h1, h2, h3⟩ := h
  refine ⟨cur.setIfInBounds i u, t, fz, by simp [World.setCell, Array.getElem?_modify, h1], fun j hj => ?_, fun j hj => h3 j (by rwa [List.length_set] at hj)⟩
  rw [List.length_set] at hj
  have q := h2 j hj
  rw [Array.getElem?_setIfInBounds, List.getElem?_set]
  by_cases e : i = j
  · subst e
    have hc : i < cur.size := by
      rw [List.getElem?_eq_getElem hj] at q
      exact (Array.getElem?_eq_some_iff.1 q).1
    simp [hc, hj]
  · simp [e, q]
theorem Cs.far (h : Cs W g xs) {p : Addr} (hp : g ≠ p.block) (u : Value) : Cs (W.setCell p u) g xs := by
  obtain ⟨cur, t, fz, h1, h2⟩ := h
  exact ⟨cur, t, fz, (Below.heap_setCell W p u g hp).trans h1, h2⟩
theorem Cs.same (h : Cs W g xs) {ys : List Value} (e : xs = ys) : Cs W g ys := e ▸ h
end
theorem Cs.new (W : World) (t : TypeId) (cs : Array Value) : Cs (W.alloc (.cells cs t)) W.heap.size cs.toList :=
  ⟨cs, t, (0, 0), heap_alloc_new W _, fun j hj => by rw [Array.getElem?_toList], fun j hj => by simp⟩
/-- the first cells of block g are these (to be read) -/
def Rd (W : World) (g : Nat) (xs : List Value) : Prop := ∃ cur t fz, W.heap[g]? = some (.cells cur t fz) ∧ ∀ j, j < xs.length → cur[j]? = xs[j]?
theorem Rd.lt {W : World} {g : Nat} {xs : List Value} (h : Rd W g xs) : g < W.heap.size := by
  obtain ⟨cur, t, fz, h1, _⟩ := h
  rcases Nat.lt_or_ge g W.heap.size with hlt | hge
  · exact hlt
  · rw [Array.getElem?_eq_none hge] at h1; cases h1
theorem Rd.cell {W : World} {g : Nat} {xs : List Value} (h : Rd W g xs) (j : Nat) (u : Value) (hu : xs[j]? = some u) : W.cell? ⟨g, j, none⟩ = some u := by
  obtain ⟨cur, t, fz, h1, h2⟩ := h
  rw [cell_of_row W g j cur t fz h1, h2 j (List.getElem?_eq_some_iff.mp hu).1, hu]
theorem Rd.below {W W' : World} {g B : Nat} {xs : List Value} (h : Rd W g xs) (hb : Below B W W') (hg : g < B) : Rd W' g xs := by
  obtain ⟨cur, t, fz, h1, h2⟩ := h
  exact ⟨cur, t, fz, (hb.block g hg).trans h1, h2⟩
theorem Rd.belowS {W W' : World} {g : Nat} {xs : List Value} (h : Rd W g xs) (hb : Below W.heap.size W W') : Rd W' g xs := h.below hb h.lt
theorem Rd.alloc {W : World} {g : Nat} {xs : List Value} (h : Rd W g xs) (o : Obj) : Rd (W.alloc o) g xs := h.belowS ((Below.refl _ _).alloc (Nat.le_refl _) o)
end Go.Proofs.YtlideagcmhlkeaaDoor

/- Copies of sources: rows of their own; what a store leaves. No function of the program. -/
namespace Go.Proofs.YtlideagcmhlkeaaDoor
open Go.RowKit
set_option linter.unusedVariables false
set_option linter.unusedSimpArgs false

theorem infoRuleC : (Tryd.prog.info? 83).map (fun i => (i.zero, i.size, i.bytes)) = some (some (.agg #[.string ⟨#[]⟩, .int .i64 0, .int .i64 0, .int .i64 0, .int .i64 0, .int .i64 0, .int .i64 0, .int .i64 0, .int .i64 0, .int .i64 0, .string ⟨#[]⟩]), 11, 104) := by kernel_rfl
theorem infoEra : (Tryd.prog.info? 47).map (fun i => (i.zero, i.size, i.bytes)) = some (some (.agg #[.int .i64 0, .int .i64 0, .int .i64 0, .string ⟨#[]⟩, .string ⟨#[]⟩, .bool false, .int .i64 0, .int .i64 0, .int .i64 0, .int .i64 0, .int .i64 0, .int .i64 0, .int .i64 0]), 13, 120) := by kernel_rfl
theorem infoZone : (Tryd.prog.info? 39).map (fun i => (i.zero, i.size, i.bytes)) = some (some (.agg #[.string ⟨#[]⟩, .slice none 0 0]), 2, 40) := by kernel_rfl
theorem infoLink : (Tryd.prog.info? 94).map (fun i => (i.zero, i.size, i.bytes)) = some (some (.agg #[.string ⟨#[]⟩, .string ⟨#[]⟩]), 2, 32) := by kernel_rfl
theorem infoStrC : (Tryd.prog.info? 9).map (fun i => (i.zero, i.size, i.bytes)) = some (some (.string ⟨#[]⟩), 1, 16) := by kernel_rfl
/-- the cells of a list of elements -/
theorem fl_len {α : Type} {f : α → List Value} {m : Nat} (hf : ∀ a, (f a).length = m) (L : List α) : (L.flatMap f).length = L.length * m := by
  induction L with
  | nil => simp
  | cons a L ih => rw [List.flatMap_cons, List.length_append, ih, hf, List.length_cons, Nat.succ_mul]; omega
theorem fl_get {α : Type} {f : α → List Value} {m : Nat} (hf : ∀ a, (f a).length = m) (hm : 0 < m) : ∀ (L : List α) (j : Nat) (u : Value), (L.flatMap f)[j]? = some u → ∃ r x, L[r]? = some x ∧ j = r * m + j % m ∧ (f x)[j % m]? = some u
  | [], j, u, h => by simp at h
  | a :: L, j, u, h => by
    rw [List.flatMap_cons] at h
    by_cases hj : j < m
    · rw [List.getElem?_append_left (by rw [hf]; exact hj)] at h
      exact ⟨0, a, rfl, by rw [Nat.mod_eq_of_lt hj]; omega, by rw [Nat.mod_eq_of_lt hj]; exact h⟩
    · rw [List.getElem?_append_right (by rw [hf]; omega), hf] at h
      obtain ⟨r, x, h1, h2, h3⟩ := fl_get hf hm L (j - m) u h
      have hmod : (j - m) % m = j % m := by rw [Nat.mod_eq_sub_mod (by omega : m ≤ j)]
      rw [hmod] at h2 h3
      exact ⟨r + 1, x, h1, by rw [Nat.succ_mul]; omega, h3⟩
theorem in_news {α : Type} {f : α → List Value} {m : Nat} (hf : ∀ a, (f a).length = m) (hm : 0 < m) {W : World} {A : Option Addr} {L : List α} (h : CellsIn m f W A L) : ∀ j u, (L.flatMap f)[j]? = some u → ∃ b o, A = some ⟨b, o, none⟩ ∧ W.cell? ⟨b, o + j, none⟩ = some u := fun j u hu => by
  obtain ⟨r, x, h1, h2, h3⟩ := fl_get hf hm L j u hu
  obtain ⟨b, o, hA, _, hc⟩ := h r x h1
  exact ⟨b, o, hA, by rw [h2, ← Nat.add_assoc]; exact hc _ _ h3⟩
theorem len_rule (r : RV) : r.cells.length = 11 := rfl
theorem len_era (r : EV) : r.cells.length = 13 := rfl
theorem len_zone (r : ZV) : r.cells.length = 2 := rfl
theorem len_link (r : KV) : r.cells.length = 2 := rfl
theorem one_fl {α : Type} {f : α → List Value} (hf : ∀ a, ∀ u ∈ f a, u.oneCell' = true) (L : List α) : ∀ u ∈ L.flatMap f, u.oneCell' = true := fun u hu => by
  obtain ⟨a, _, h⟩ := List.mem_flatMap.1 hu
  exact hf a u h
theorem one_rule (r : RV) : ∀ u ∈ r.cells, u.oneCell' = true := fun u hu => by
  simp only [RV.cells, List.mem_cons, List.not_mem_nil, or_false] at hu
  rcases hu with rfl | rfl | rfl | rfl | rfl | rfl | rfl | rfl | rfl | rfl | rfl <;> rfl
theorem one_era (r : EV) : ∀ u ∈ r.cells, u.oneCell' = true := fun u hu => by
  simp only [EV.cells, List.mem_cons, List.not_mem_nil, or_false] at hu
  rcases hu with rfl | rfl | rfl | rfl | rfl | rfl | rfl | rfl | rfl | rfl | rfl | rfl | rfl <;> rfl
theorem one_link (r : KV) : ∀ u ∈ r.cells, u.oneCell' = true := fun u hu => by
  simp only [KV.cells, List.mem_cons, List.not_mem_nil, or_false] at hu
  rcases hu with rfl | rfl <;> rfl
/-- a list in a row of the call's own, from this block on -/
def RowOf {α : Type} (W : World) (base : Nat) (e : TypeId) (m : Nat) (f : α → List Value) (A : Option Addr) (c : Nat) (L : List α) : Prop := W.ownsRow base e m (.slice A L.length c) L.length (L.flatMap f)
theorem RowOf.below {α : Type} {W W' : World} {base : Nat} {e : TypeId} {m : Nat} {f : α → List Value} {A : Option Addr} {c : Nat} {L : List α} (h : RowOf W base e m f A c L) (hb : Below W.heap.size W W') : RowOf W' base e m f A c L := own_below h hb
/-- the zones that are copied so far, each with a row of its own for its eras -/
structure ZonesIn (W : World) (base : Nat) (Z Y : List ZV) : Prop where
  same : Y.length = Z.length ∧ ∀ (i : Nat) (z y : ZV), Z[i]? = some z → Y[i]? = some y → y.name = z.name ∧ y.eras = z.eras
  eras : ∀ (i : Nat) (y : ZV), Y[i]? = some y → RowOf W base 47 13 EV.cells y.A y.c y.eras
  apart : ∀ (i j : Nat) (y z : ZV), i < j → Y[i]? = some y → Y[j]? = some z → ∀ (g : Nat), y.A = some ⟨g, 0, none⟩ → z.A ≠ some ⟨g, 0, none⟩
theorem ZonesIn.below {W W' : World} {base : Nat} {Z Y : List ZV} (h : ZonesIn W base Z Y) (hb : Below W.heap.size W W') : ZonesIn W' base Z Y := ⟨h.same, fun i y hy => (h.eras i y hy).below hb, h.apart⟩
/-- a copy: the same values, in rows of its own -/
structure CopyOf (W : World) (base : Nat) (s t : SV) : Prop where
  rules : t.rules = s.rules ∧ RowOf W base 83 11 RV.cells t.rA t.rc t.rules
  zones : RowOf W base 39 2 ZV.cells t.zA t.zc t.zones ∧ ZonesIn W base s.zones t.zones
  links : t.links = s.links ∧ RowOf W base 94 2 KV.cells t.kA t.kc t.links
  shifts : t.shifts = s.shifts ∧ RowOf W base 9 1 (fun b : ByteArray => [Value.string b]) t.hA t.hc t.shifts
theorem own_base {w : World} {b b' n size : Nat} {e : TypeId} {v : Value} {xs : List Value} (h : w.ownsRow b e size v n xs) (hb : b' ≤ b) : w.ownsRow b' e size v n xs := by
  refine ⟨h.1, ?_⟩
  rcases h.2 with q | ⟨g, cap, cur, h1, h2, h3⟩
  · exact .inl q
  · exact .inr ⟨g, cap, cur, h1, Nat.le_trans hb h2, h3⟩
theorem own_farj {w : World} {base n size : Nat} {e : TypeId} {v : Value} {xs : List Value} (h : w.ownsRow base e size v n xs) (b j : Nat) (hb : b < base) (u : Value) : (w.setCell ⟨b, j, none⟩ u).ownsRow base e size v n xs := by
  refine ⟨h.1, ?_⟩
  rcases h.2 with q | ⟨g, cap, cur, h1, h2, h3, h4⟩
  · exact .inl q
  · exact .inr ⟨g, cap, cur, h1, h2, (Below.heap_setCell w _ u g (by show g ≠ b; omega)).trans h3, h4⟩
theorem RowOf.farj {α : Type} {W : World} {base : Nat} {e : TypeId} {m : Nat} {f : α → List Value} {A : Option Addr} {c : Nat} {L : List α} (h : RowOf W base e m f A c L) (b j : Nat) (hb : b < base) (u : Value) : RowOf (W.setCell ⟨b, j, none⟩ u) base e m f A c L := own_farj h b j hb u
theorem ZonesIn.farj {W : World} {base : Nat} {Z Y : List ZV} (h : ZonesIn W base Z Y) (b j : Nat) (hb : b < base) (u : Value) : ZonesIn (W.setCell ⟨b, j, none⟩ u) base Z Y := ⟨h.same, fun i y hy => own_farj (h.eras i y hy) b j hb u, h.apart⟩
theorem blk_drew1 {W : World} {g : Nat} {t : TypeId} {cs : Array Value} (h : Blk W g t cs) : Blk W.drew g t cs := h
theorem ZonesIn.base_le {W : World} {b b' : Nat} {Z Y : List ZV} (h : ZonesIn W b Z Y) (hb : b' ≤ b) : ZonesIn W b' Z Y := ⟨h.same, fun i y hy => own_base (h.eras i y hy) hb, h.apart⟩
theorem grown_below {W W' : World} (h : W.grownBy W' none) : Below W.heap.size W W' := (Below.refl _ _).grown h (Nat.le_refl _) (fun k hk => by cases hk)
theorem row_other {W W' : World} {b1 b2 e1 e2 n1 n2 s1 s2 : Nat} {v1 v2 : Value} {x1 x2 : List Value} (h : W.ownsRow b1 e1 s1 v1 n1 x1) (k : W.ownsRow b2 e2 s2 v2 n2 x2) (hne : e1 ≠ e2) (hg : W.grownBy W' v2.ownBlock) : W'.ownsRow b1 e1 s1 v1 n1 x1 := by
  refine ⟨h.1, ?_⟩
  rcases h.2 with q | ⟨g, cap, cur, hv, hb, hh, hr⟩
  · exact .inl q
  · refine .inr ⟨g, cap, cur, hv, hb, (hg.block g (h.lt g (by rw [hv]; rfl)).2 fun e => ?_).trans hh, hr⟩
    rcases k.2 with ⟨rfl, _⟩ | ⟨g', cap', cur', rfl, _, hh', _⟩
    · cases e
    · have : g = g' := Option.some.inj e
      subst this
      rw [hh] at hh'
      injection hh' with hh'
      injection hh' with _ q _
      exact hne q
theorem ZonesIn.other {W W' : World} {base b2 n2 s2 : Nat} {e2 : TypeId} {v2 : Value} {x2 : List Value} {Z Y : List ZV} (h : ZonesIn W base Z Y) (k : W.ownsRow b2 e2 s2 v2 n2 x2) (hne : 47 ≠ e2) (hg : W.grownBy W' v2.ownBlock) : ZonesIn W' base Z Y := ⟨h.same, fun i y hy => row_other (h.eras i y hy) k hne hg, h.apart⟩
theorem zones_snocH {wr W : World} {b b2 : Nat} {Z Y : List ZV} {k : Nat} {z : ZV} {eA : Option Addr} {ec : Nat} (h : ZonesIn wr b (Z.take k) Y) (hz : Z[k]? = some z) (h2 : ZonesIn W b (Z.take k) Y) (hle : b ≤ wr.heap.size) (hle2 : wr.heap.size ≤ b2)
    (hn : RowOf W b2 47 13 EV.cells eA ec z.eras) : ZonesIn W b (Z.take (k + 1)) (Y ++ [⟨z.name, eA, ec, z.eras⟩]) := by
  have hkl := (List.getElem?_eq_some_iff.1 hz).1
  have hYl : Y.length = k := by rw [h.same.1, List.length_take]; omega
  have key : ∀ (i : Nat) (y : ZV), (Y ++ [⟨z.name, eA, ec, z.eras⟩])[i]? = some y → (i < k ∧ Y[i]? = some y) ∨ (i = k ∧ y = ⟨z.name, eA, ec, z.eras⟩) := fun i y hy => by
    by_cases hi : i < k
    · rw [List.getElem?_append_left (by omega)] at hy
      exact .inl ⟨hi, hy⟩
    · rw [List.getElem?_append_right (by omega), hYl] at hy
      have hi0 : i - k = 0 := by
        have := (List.getElem?_eq_some_iff.1 hy).1
        simp at this
        omega
      rw [hi0] at hy
      simp only [List.getElem?_cons_zero, Option.some.injEq] at hy
      exact .inr ⟨by omega, hy.symm⟩
  refine ⟨⟨by rw [List.length_append, hYl, List.length_take]; simp; omega, fun i a y ha hy => ?_⟩, fun i y hy => ?_, fun i j y y' hij hy hy' g hg hg' => ?_⟩
  · rcases key i y hy with ⟨hi, hy2⟩ | ⟨rfl, rfl⟩
    · exact h.same.2 i a y (by rw [List.getElem?_take, if_pos hi]; rw [List.getElem?_take, if_pos (by omega)] at ha; exact ha) hy2
    · rw [List.getElem?_take, if_pos (by omega), hz] at ha
      injection ha with ha
      subst ha
      exact ⟨rfl, rfl⟩
  · rcases key i y hy with ⟨hi, hy2⟩ | ⟨rfl, rfl⟩
    · exact h2.eras i y hy2
    · exact own_base hn (by omega)
  · rcases key i y hy with ⟨hi, hy2⟩ | ⟨rfl, rfl⟩
    · rcases key j y' hy' with ⟨hj, hy3⟩ | ⟨rfl, rfl⟩
      · exact h2.apart i j y y' hij hy2 hy3 g hg hg'
      · have l1 := (World.ownsRow.lt (h.eras i y hy2) g (by rw [hg]; rfl)).2
        have l2 := (World.ownsRow.lt hn g (by show (Value.slice eA _ ec).ownBlock = some g; simp only at hg'; rw [hg']; rfl)).1
        omega
    · rcases key j y' hy' with ⟨hj, hy3⟩ | ⟨rfl, rfl⟩
      · omega
      · omega
theorem zones_snocG {wr W : World} {b b2 : Nat} {Z Y : List ZV} {k : Nat} {z : ZV} {eA : Option Addr} {ec : Nat} (h : ZonesIn wr b (Z.take k) Y) (hz : Z[k]? = some z) (hb : Below wr.heap.size wr W) (hle : b ≤ wr.heap.size) (hle2 : wr.heap.size ≤ b2)
    (hn : RowOf W b2 47 13 EV.cells eA ec z.eras) : ZonesIn W b (Z.take (k + 1)) (Y ++ [⟨z.name, eA, ec, z.eras⟩]) := zones_snocH h hz (h.below hb) hle hle2 hn
theorem zones_snoc {w wr W : World} {Z Y : List ZV} {k : Nat} {z : ZV} {eA : Option Addr} {ec : Nat} (h : ZonesIn wr (w.heap.size + 3) (Z.take k) Y) (hz : Z[k]? = some z) (hb : Below wr.heap.size wr W) (hle : w.heap.size + 3 ≤ wr.heap.size)
    (hn : RowOf W (wr.heap.size + 1) 47 13 EV.cells eA ec z.eras) : ZonesIn W (w.heap.size + 3) (Z.take (k + 1)) (Y ++ [⟨z.name, eA, ec, z.eras⟩]) := zones_snocG h hz hb hle (Nat.le_succ _) hn
theorem flat_pick {α : Type} {f : α → List Value} {m : Nat} (hf : ∀ a, (f a).length = m) : ∀ (l : List α) (k j : Nat) (x : α), j < m → l[k]? = some x → (l.flatMap f)[k * m + j]? = (f x)[j]?
  | [], k, j, x, _, h => by simp at h
  | a :: l, 0, j, x, hj, h => by
    simp only [List.getElem?_cons_zero, Option.some.injEq] at h
    subst h
    rw [List.flatMap_cons, Nat.zero_mul, Nat.zero_add, List.getElem?_append_left (by rw [hf]; exact hj)]
  | a :: l, k + 1, j, x, hj, h => by
    simp only [List.getElem?_cons_succ] at h
    rw [List.flatMap_cons, List.getElem?_append_right (by rw [hf, Nat.succ_mul]; omega), hf, show (k + 1) * m + j - m = k * m + j by rw [Nat.succ_mul]; omega]
    exact flat_pick hf l k j x hj h
/-- the elements of a row, as a slice that is read -/
theorem RowOf.cellsIn {α : Type} {W : World} {base : Nat} {e : TypeId} {m : Nat} {f : α → List Value} {A : Option Addr} {c : Nat} {L : List α} (h : RowOf W base e m f A c L) (hf : ∀ a, (f a).length = m) : CellsIn m f W A L := by
  intro k r hr
  have hpos : 0 < L.length := by have := (List.getElem?_eq_some_iff.1 hr).1; omega
  obtain ⟨B, cap, hv, hB, hlt, hcap, hc⟩ := own_form h hpos
  injection hv with hA
  refine ⟨B, 0, hA, hlt, fun j u hu => ?_⟩
  rw [Nat.zero_add]
  refine hc _ _ ?_
  have hj : j < m := by rw [← hf r]; exact (List.getElem?_eq_some_iff.1 hu).1
  rw [flat_pick hf L k j r hj hr]
  exact hu
theorem CopyOf.src {W : World} {base : Nat} {s t : SV} (h : CopyOf W base s t) : SrcIn W t :=
  ⟨h.rules.2.cellsIn len_rule, h.zones.1.cellsIn len_zone, h.links.2.cellsIn len_link, h.shifts.2.cellsIn (fun _ => rfl), fun z hz => by
    obtain ⟨i, hi⟩ := List.mem_iff_getElem?.1 hz
    exact (h.zones.2.eras i z hi).cellsIn len_era⟩
/-- a row whose element is altered in one cell -/
theorem flat_set {α : Type} {f : α → List Value} {m : Nat} (hf : ∀ a, (f a).length = m) : ∀ (L : List α) (k j : Nat) (x y : α) (u : Value), j < m → L[k]? = some x → f y = (f x).set j u → (L.flatMap f).set (k * m + j) u = (L.set k y).flatMap f
  | [], k, j, x, y, u, _, h, _ => by simp at h
  | a :: L, 0, j, x, y, u, hj, h, hy => by
    simp only [List.getElem?_cons_zero, Option.some.injEq] at h
    subst h
    rw [List.flatMap_cons, Nat.zero_mul, Nat.zero_add, List.set_append_left _ _ (by rw [hf]; exact hj), List.set_cons_zero, List.flatMap_cons, hy]
  | a :: L, k + 1, j, x, y, u, hj, h, hy => by
    simp only [List.getElem?_cons_succ] at h
    have ih := flat_set hf L k j x y u hj h hy
    rw [List.flatMap_cons, List.set_append_right _ _ (by rw [hf, Nat.succ_mul]; omega), hf, show (k + 1) * m + j - m = k * m + j by rw [Nat.succ_mul]; omega, ih, List.set_cons_succ, List.flatMap_cons]
theorem RowOf.set_ {α : Type} {W : World} {base : Nat} {e : TypeId} {m : Nat} {f : α → List Value} {B c : Nat} {L : List α} (h : RowOf W base e m f (some ⟨B, 0, none⟩) c L) (hf : ∀ a, (f a).length = m) (k j : Nat) (x y : α) (u : Value) (hj : j < m) (hk : L[k]? = some x) (hy : f y = (f x).set j u) :
    RowOf (W.setCell ⟨B, k * m + j, none⟩ u) base e m f (some ⟨B, 0, none⟩) c (L.set k y) := by
  have hlen := fl_len hf L
  have hkl := (List.getElem?_eq_some_iff.1 hk).1
  unfold RowOf at h ⊢
  rw [← flat_set hf L k j x y u hj hk hy, List.length_set]
  obtain ⟨h0, h1⟩ := h
  refine ⟨by rw [List.length_set]; exact h0, ?_⟩
  rcases h1 with ⟨hv, _⟩ | ⟨g, cap, cur, hv, hb, hh, hn, hm, hcs, hx⟩
  · cases hv
  · injection hv with e1 e2 e3
    injection e1 with e1
    injection e1 with e1
    subst e1
    refine .inr ⟨_, cap, cur.setIfInBounds (k * m + j) u, by rw [e3], hb, by simp [World.setCell, Array.getElem?_modify, hh], hn, hm, by simpa using hcs, ?_⟩
    rw [← hx, Array.toList_setIfInBounds, List.take_set]
/-- a store into a row leaves rows of other elements, and boxes of other types -/
theorem block_of {W : World} {b n size g : Nat} {e : TypeId} {v : Value} {xs : List Value} (h : W.ownsRow b e size v n xs) (hg : v.ownBlock = some g) : ∃ cur, W.heap[g]? = some (.cells cur e (0, 0)) := by
  rcases h.2 with ⟨rfl, _⟩ | ⟨g', cap, cur, rfl, _, hh, _⟩
  · cases hg
  · have : g' = g := Option.some.inj hg
    subst this
    exact ⟨cur, hh⟩
theorem row_set_other {W : World} {b1 b2 e1 e2 n1 n2 s1 s2 B j : Nat} {v1 v2 : Value} {x1 x2 : List Value} (h : W.ownsRow b1 e1 s1 v1 n1 x1) (k : W.ownsRow b2 e2 s2 v2 n2 x2) (hB : v2.ownBlock = some B) (hne : e1 ≠ e2) (u : Value) : (W.setCell ⟨B, j, none⟩ u).ownsRow b1 e1 s1 v1 n1 x1 := by
  refine ⟨h.1, ?_⟩
  rcases h.2 with q | ⟨g, cap, cur, hv, hb, hh, hr⟩
  · exact .inl q
  · refine .inr ⟨g, cap, cur, hv, hb, (Below.heap_setCell W _ u g (fun e => ?_)).trans hh, hr⟩
    obtain ⟨cur', hh'⟩ := block_of k hB
    have : g = B := e
    subst this
    rw [hh] at hh'
    injection hh' with hh'
    injection hh' with _ q _
    exact hne q
theorem blk_set_other {W : World} {b2 e2 n2 s2 B j g : Nat} {t : TypeId} {cs : Array Value} {v2 : Value} {x2 : List Value} (h : Blk W g t cs) (k : W.ownsRow b2 e2 s2 v2 n2 x2) (hB : v2.ownBlock = some B) (hne : t ≠ e2) (u : Value) : Blk (W.setCell ⟨B, j, none⟩ u) g t cs := by
  refine h.far (p := ⟨B, j, none⟩) (fun e => ?_) u
  obtain ⟨cur', hh'⟩ := block_of k hB
  have : g = B := e
  subst this
  unfold Blk at h
  rw [h] at hh'
  injection hh' with hh'
  injection hh' with _ q _
  exact hne q
end Go.Proofs.YtlideagcmhlkeaaDoor
