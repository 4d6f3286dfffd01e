/- Texts of one proof, one behind the other: Com; Blk; Own; Rules; Slices; Src; App; Cs; CopyB; Eqs; Sam14; Plain4; Plain4e; Plain20; Plain20b; Plain20c; Num20a; Plain20d; Dec4. -/
import Derived.WalkKit
import Derived.WalkSpells
import Derived.WalkLawsBesides
import Derived.BigQuiet
import Derived.Deep.QuietTactic
import Derived.Lib.Hide
import Derived.Below
import Derived.Laws.AppendOwn
import Derived.Laws.OwnMore
import Derived.Laws.BytesString
import Derived.Test.YtlideagcmhlkeaaDoorChecked
import Derived.Deep.Slices
import Derived.Deep.Fields
import Derived.ChangeSame
import Derived.WideShapes
import Derived.Deep.AppendLies
import Derived.Laws.IdiomStrings
import Derived.Laws.StructEq
import Derived.BigRegion
import Derived.IntWalk
import Derived.Deep.DeepCutAuto
import Derived.Lib.ItoaNum
import Derived.Lib.IndexBytes
import Derived.Deep.CutBlock
import Derived.ArgAppend
import Derived.Deep.LoopGhost
import Derived.WalkMore
import Derived.Lib.ParseIntB

/- Small lemmas for walks: draws, quiet calls, strings. No function of the program. -/
namespace Go.Proofs.YtlideagcmhlkeaaDoor
open Go.RowKit

/-- the call only drew -/
def Q (w w' : World) : Prop := ∃ n, w' = w.drewN n
theorem Q.refl (w : World) : Q w w := ⟨0, rfl⟩
theorem Q.drewN (w : World) (n : Nat) : Q w (w.drewN n) := ⟨n, rfl⟩
theorem Q.below {w w' : World} (h : Q w w') (B : Nat) : Below B w w' := by
  obtain ⟨n, rfl⟩ := h
  exact ⟨rfl, rfl, rfl, Nat.le_refl _, fun _ _ => rfl⟩
theorem below_drewN {B : Nat} {a w : World} (h : Below B a w) (n : Nat) : Below B a (w.drewN n) := ⟨h.os, h.tape, h.output, h.size, h.block⟩
/-- a string of bytes, behind a name of its own -/
def str (l : List UInt8) : ByteArray := ⟨l.toArray⟩
theorem str_append (a b : List UInt8) : str a ++ str b = str (a ++ b) := by
  apply ByteArray.ext
  simp [str, ByteArray.data_append]
theorem str_data (l : List UInt8) : (str l).data.toList = l := rfl
theorem str_size (l : List UInt8) : (str l).size = l.length := rfl
theorem str_bl (s : ByteArray) : str s.data.toList = s := rfl
end Go.Proofs.YtlideagcmhlkeaaDoor

/- Blocks that are known whole. No function of the program. -/
namespace Go.Proofs.YtlideagcmhlkeaaDoor
open Go.RowKit
set_option linter.unusedVariables false

/-- block g is just these cells, none of them frozen -/
def Blk (w : World) (g : Nat) (t : TypeId) (cs : Array Value) : Prop := w.heap[g]? = some (.cells cs t (0, 0))
section
variable {w w' : World} {g : Nat} {t : TypeId} {cs : Array Value}
theorem Blk.lt (h : Blk w g t cs) : g < w.heap.size := by
  rcases Nat.lt_or_ge g w.heap.size with hlt | hge
  · exact hlt
  · unfold Blk at h; rw [Array.getElem?_eq_none hge] at h; cases h
theorem Blk.cell (h : Blk w g t cs) (i : Nat) : w.cell? ⟨g, i, none⟩ = cs[i]? := cell_of_row w g i cs t (0, 0) h
theorem Blk.below {B : Nat} (h : Blk w g t cs) (hb : Below B w w') (hg : g < B) : Blk w' g t cs := (hb.block g hg).trans h
theorem Blk.alloc (h : Blk w g t cs) (o : Obj) : Blk (w.alloc o) g t cs := (Below.heap_alloc w o g h.lt).trans h
end
theorem Blk.new (w : World) (t : TypeId) (cs : Array Value) : Blk (w.alloc (.cells cs t)) w.heap.size t cs := heap_alloc_new w _
theorem Blk.newAt (w : World) (n : Nat) (h : w.heap.size = n) (t : TypeId) (cs : Array Value) : Blk (w.alloc (.cells cs t)) n t cs := h ▸ Blk.new w t cs
theorem Blk.frozen {w : World} {g : Nat} {t : TypeId} {cs : Array Value} (h : Blk w g t cs) (i : Nat) : w.frozen? ⟨g, i, none⟩ = false := by
  unfold Blk at h
  simp [World.frozen?, h]
theorem Blk.set_ {w : World} {g : Nat} {t : TypeId} {cs : Array Value} (h : Blk w g t cs) (i : Nat) (u : Value) : Blk (w.setCell ⟨g, i, none⟩ u) g t (cs.setIfInBounds i u) := by
  unfold Blk at h ⊢
  simp [World.setCell, Array.getElem?_modify, h]
theorem Blk.far {w : World} {g : Nat} {t : TypeId} {cs : Array Value} (h : Blk w g t cs) {p : Addr} (hp : g ≠ p.block) (u : Value) : Blk (w.setCell p u) g t cs := (Below.heap_setCell w p u g hp).trans h
theorem Blk.drewN {w : World} {g : Nat} {t : TypeId} {cs : Array Value} (h : Blk w g t cs) (n : Nat) : Blk (w.drewN n) g t cs := h
theorem Blk.q {w w' : World} {g : Nat} {t : TypeId} {cs : Array Value} (h : Blk w g t cs) (hq : Q w w') : Blk w' g t cs := by
  obtain ⟨n, rfl⟩ := hq
  exact h
end Go.Proofs.YtlideagcmhlkeaaDoor

/- Rows of the call's own: made, opened, kept; bytes in a row as a list; their string. No function of the program. -/
namespace Go.Proofs.YtlideagcmhlkeaaDoor
open Go.RowKit
set_option linter.unusedVariables false

theorem add_zero_off (B j : Nat) : (⟨B, 0, none⟩ : Addr).add j = ⟨B, j, none⟩ := by unfold Addr.add; split <;> simp_all
theorem blk_cells {w : World} {B : Nat} {e : TypeId} {cs : Array Value} (h : Blk w B e cs) : ∀ (j : Nat) u, cs.toList[j]? = some u → w.cell? ((⟨B, 0, none⟩ : Addr).add j) = some u := by
  intro j u hu
  rw [add_zero_off, h.cell j, ← Array.getElem?_toList]
  exact hu
theorem own_new {w : World} {base B : Nat} {e : TypeId} {cs : Array Value} (size n : Nat) (h : Blk w B e cs) (hb : base ≤ B) (hn : cs.size = n * size) (hm : n ≤ maxLen) : w.ownsRow base e size (.slice (some ⟨B, 0, none⟩) n n) n cs.toList :=
  ⟨by rw [Array.length_toList, hn], .inr ⟨B, n, cs, rfl, hb, h, Nat.le_refl _, hm, hn, by rw [List.take_of_length_le (by rw [Array.length_toList, hn]; exact Nat.le_refl _)]⟩⟩
theorem own_form {w : World} {base n size : Nat} {e : TypeId} {v : Value} {xs : List Value} (h : w.ownsRow base e size v n xs) (hn : 0 < n) :
    ∃ B cap, v = .slice (some ⟨B, 0, none⟩) n cap ∧ base ≤ B ∧ B < w.heap.size ∧ n ≤ cap ∧ ∀ k u, xs[k]? = some u → w.cell? ⟨B, k, none⟩ = some u := by
  have hc := fun g hg => h.cells (g := g) hg
  have hl := h.lt
  rcases h.2 with ⟨_, q⟩ | ⟨g, cap, cur, rfl, hg, hh, hcap, _⟩
  · omega
  · refine ⟨g, cap, rfl, hg, (hl g rfl).2, hcap, fun k u hu => ?_⟩
    have := hc g rfl k u hu
    rwa [add_zero_off] at this
theorem own_below {w w' : World} {base n size : Nat} {e : TypeId} {v : Value} {xs : List Value} (h : w.ownsRow base e size v n xs) (hb : Below w.heap.size w w') : w'.ownsRow base e size v n xs := by
  refine ⟨h.1, ?_⟩
  rcases h.2 with q | ⟨g, cap, cur, hv, hg, hh, q⟩
  · exact .inl q
  · refine .inr ⟨g, cap, cur, hv, hg, ?_, q⟩
    rw [hb.block g (h.lt g (by rw [hv]; rfl)).2]; exact hh
/-- an append to a row of the call's own: what lay below still stands -/
theorem own_grown {a w w' : World} {base B n size : Nat} {e : TypeId} {v : Value} {xs : List Value} (hb : Below B a w) (h : w.ownsRow base e size v n xs) (hg : w.grownBy w' v.ownBlock) (hB : B ≤ w.heap.size) (hBb : B ≤ base) : Below B a w' :=
  hb.grown hg hB fun k hk => Nat.le_trans hBb (h.lt k hk).1
theorem blk_grown {w w' : World} {base g n size : Nat} {e t : TypeId} {v : Value} {xs : List Value} {cs : Array Value} (hB : Blk w g t cs) (h : w.ownsRow base e size v n xs) (hg : w.grownBy w' v.ownBlock) (hlt : g < base) : Blk w' g t cs :=
  (hg.block g hB.lt fun q => by have := (h.lt g q.symm).1; omega).trans hB
/-- bytes as values -/
def bvs (l : List UInt8) : List Value := l.map fun c => .int .u8 (c.toNat : Int)
theorem bvs_len (l : List UInt8) : (bvs l).length = l.length := List.length_map _
theorem bvs_append (a b : List UInt8) : bvs (a ++ b) = bvs a ++ bvs b := List.map_append
theorem push_all (l : List UInt8) : ∀ r : ByteArray, (l.map fun c => (c.toNat : Int)).foldl (fun r n => r.push (UInt8.ofNat n.toNat)) r = r ++ str l := by
  induction l with
  | nil => intro r; rw [show str [] = ByteArray.empty from rfl]; exact ByteArray.append_empty.symm
  | cons c l ih =>
    intro r
    rw [List.map_cons, List.foldl_cons, ih]
    apply ByteArray.ext
    simp [str, ByteArray.data_append]
theorem bytes_str {P : Program} (W : World) (B n cap : Nat) (l : List UInt8) (hn : n = l.length) (h : ∀ k u, (bvs l)[k]? = some u → W.cell? ⟨B, k, none⟩ = some u) :
    (Conv.bytesToString (.slice (some ⟨B, 0, none⟩) n cap)).run P W = .ok (.string (str l)) W := by
  have hr : (loadCells ⟨B, 0, none⟩ n).run P W = .ok ((l.map fun c => (c.toNat : Int)).map (Value.int .u8)).toArray W := by
    have q := run_loadCells_list (P := P) (w := W) ⟨B, 0, none⟩ (bvs l) (fun j u hu => by rw [add_zero_off]; exact h j u hu)
    rw [bvs_len, ← hn] at q
    rw [q, List.map_map]; rfl
  rw [run_bytesToString W _ _ _ _ hr, push_all]
  rw [ByteArray.empty_append]
theorem conv_own {P : Program} {T S E : TypeId} (hT : P.underlying T = some (.slice E)) (hE : P.underlying E = some (.int .u8)) (hS : P.underlying S = some .string) (W : World) (B n cap : Nat) (l : List UInt8) (hn : n = l.length)
    (h : ∀ k u, (bvs l)[k]? = some u → W.cell? ⟨B, k, none⟩ = some u) : (convert T S (.slice (some ⟨B, 0, none⟩) n cap)).run P W = .ok (.string (str l)) W := by
  rw [run_convert_bytes_string W T S E _ _ _ hT hE hS]
  exact bytes_str W B n cap l hn h
end Go.Proofs.YtlideagcmhlkeaaDoor

/- Slices of rules as the walks read them: the saves of the rules. No function of the program. -/
namespace Go.Proofs.YtlideagcmhlkeaaDoor
open Go.RowKit
set_option linter.unusedVariables false

/-- a rule's cells -/
structure RV where
  name : ByteArray
  frm : Int
  til : Int
  month : Int
  dk : Int
  dw : Int
  dd : Int
  asec : Int
  abase : Int
  save : Int
  letter : ByteArray
def RV.cells (r : RV) : List Value := [.string r.name, .int .i64 r.frm, .int .i64 r.til, .int .i64 r.month, .int .i64 r.dk, .int .i64 r.dw, .int .i64 r.dd, .int .i64 r.asec, .int .i64 r.abase, .int .i64 r.save, .string r.letter]
/-- the slice holds these rules -/
def RulesIn (w : World) (A : Option Addr) (L : List RV) : Prop :=
  ∀ k r, L[k]? = some r → ∃ b o, A = some ⟨b, o, none⟩ ∧ b < w.heap.size ∧ ∀ j u, r.cells[j]? = some u → w.cell? ⟨b, o + k * 11 + j, none⟩ = some u
theorem RulesIn.below {w w' : World} {A : Option Addr} {L : List RV} (h : RulesIn w A L) (hb : Below w.heap.size w w') : RulesIn w' A L := by
  intro k r hr
  obtain ⟨b, o, hA, hlt, hc⟩ := h k r hr
  exact ⟨b, o, hA, Nat.lt_of_lt_of_le hlt hb.size, fun j u hu => (hb.cell (p := ⟨b, o + k * 11 + j, none⟩) hlt).trans (hc j u hu)⟩
theorem RulesIn.alloc {w : World} {A : Option Addr} {L : List RV} (h : RulesIn w A L) (ob : Obj) : RulesIn (w.alloc ob) A L := h.below ((Below.refl _ _).alloc (Nat.le_refl _) ob)
theorem RulesIn.nil (w : World) (A : Option Addr) : RulesIn w A [] := fun k r hr => by simp at hr
theorem RulesIn.drewN {w : World} {A : Option Addr} {L : List RV} (h : RulesIn w A L) (n : Nat) : RulesIn (w.drewN n) A L := h
/-- the eleven cells of the rule at a place -/
theorem RulesIn.get {w : World} {A : Option Addr} {L : List RV} (h : RulesIn w A L) (k : Nat) (r : RV) (hr : L[k]? = some r) :
    ∃ b o, A = some ⟨b, o, none⟩ ∧ b < w.heap.size ∧ w.cell? ⟨b, o + k * 11, none⟩ = some (.string r.name) ∧ w.cell? ⟨b, o + k * 11 + 1, none⟩ = some (.int .i64 r.frm) ∧ w.cell? ⟨b, o + k * 11 + 2, none⟩ = some (.int .i64 r.til) ∧
      w.cell? ⟨b, o + k * 11 + 3, none⟩ = some (.int .i64 r.month) ∧ w.cell? ⟨b, o + k * 11 + 4, none⟩ = some (.int .i64 r.dk) ∧ w.cell? ⟨b, o + k * 11 + 5, none⟩ = some (.int .i64 r.dw) ∧ w.cell? ⟨b, o + k * 11 + 6, none⟩ = some (.int .i64 r.dd) ∧
      w.cell? ⟨b, o + k * 11 + 7, none⟩ = some (.int .i64 r.asec) ∧ w.cell? ⟨b, o + k * 11 + 8, none⟩ = some (.int .i64 r.abase) ∧ w.cell? ⟨b, o + k * 11 + 9, none⟩ = some (.int .i64 r.save) ∧ w.cell? ⟨b, o + k * 11 + 10, none⟩ = some (.string r.letter) := by
  obtain ⟨b, o, hA, hlt, hc⟩ := h k r hr
  exact ⟨b, o, hA, hlt, hc 0 _ rfl, hc 1 _ rfl, hc 2 _ rfl, hc 3 _ rfl, hc 4 _ rfl, hc 5 _ rfl, hc 6 _ rfl, hc 7 _ rfl, hc 8 _ rfl, hc 9 _ rfl, hc 10 _ rfl⟩
end Go.Proofs.YtlideagcmhlkeaaDoor

/- A slice that comes in, read as a list of elements of some cells each (for the cards). No function of the program. -/
namespace Go.Proofs.YtlideagcmhlkeaaDoor
open Go.RowKit Go.ChangeShapes Go.WideShapes
set_option linter.unusedVariables false

/-- the slice holds these elements, of m cells each -/
def CellsIn {α : Type} (m : Nat) (f : α → List Value) (w : World) (A : Option Addr) (L : List α) : Prop :=
  ∀ k r, L[k]? = some r → ∃ b o, A = some ⟨b, o, none⟩ ∧ b < w.heap.size ∧ ∀ j u, (f r)[j]? = some u → w.cell? ⟨b, o + k * m + j, none⟩ = some u
/-- a byte's cell -/
def u8Cell (n : Int) : List Value := [.int .u8 n]
theorem CellsIn.below {α : Type} {m : Nat} {f : α → List Value} {w w' : World} {A : Option Addr} {L : List α} (h : CellsIn m f w A L) (hb : Below w.heap.size w w') : CellsIn m f w' A L := by
  intro k r hr
  obtain ⟨b, o, hA, hlt, hc⟩ := h k r hr
  exact ⟨b, o, hA, Nat.lt_of_lt_of_le hlt hb.size, fun j u hu => (hb.cell (p := ⟨b, o + k * m + j, none⟩) hlt).trans (hc j u hu)⟩
theorem CellsIn.alloc {α : Type} {m : Nat} {f : α → List Value} {w : World} {A : Option Addr} {L : List α} (h : CellsIn m f w A L) (ob : Obj) : CellsIn m f (w.alloc ob) A L := h.below ((Below.refl _ _).alloc (Nat.le_refl _) ob)
theorem CellsIn.nil {α : Type} {m : Nat} {f : α → List Value} (w : World) (A : Option Addr) : CellsIn m f w A [] := fun k r hr => by simp at hr
theorem CellsIn.drewN {α : Type} {m : Nat} {f : α → List Value} {w : World} {A : Option Addr} {L : List α} (h : CellsIn m f w A L) (n : Nat) : CellsIn m f (w.drewN n) A L := h
section
variable {H : Type} {enc : TypeId × Value → H} {w : World} {base : Nat} {sp : Nat → Bool} {held : Bool}
theorem add_plain (b o : Nat) (k j : Nat) : ((⟨b, o, none⟩ : Addr).add k).add j = ⟨b, o + k + j, none⟩ := by
  unfold Addr.add
  by_cases hk : k = 0 <;> by_cases hj : j = 0 <;> simp [hk, hj]
/-- a slice that comes in, on the list of its cells (a field of a struct) -/
theorem open_cells {P : Program} {α : Type} {t e : TypeId} {m : Nat} {f : α → List Value} {Good : α → Prop} {fuel : Nat} {cs : List Value} {x : DataW H × List MemPlace} (ht : P.underlying t = some (.slice e)) (hC : P.cellsOf e = m) (h0 : 0 < m)
    (hopen : ∀ (fuel : Nat) (cs : List Value) (x : DataW H × List MemPlace), cs.length = m → DataW.trod enc P w base sp held fuel e cs = some x → ∃ r : α, cs = f r ∧ Good r)
    (hf : DataW.trod enc P w base sp held fuel t cs = some x) :
    ∃ (A : Option Addr) (c : Nat) (L : List α), cs = [.slice A L.length c] ∧ L.length ≤ maxLen ∧ CellsIn m f w A L ∧ ∀ r ∈ L, Good r := by
  rcases Go.Deep.open_slice ht hf with ⟨h0', _⟩ | ⟨a, len, cap, m', n, D, Pl, hcs, hb, hl, hm, hmm, hx, hi⟩
  · exact ⟨none, 0, [], h0', Nat.zero_le _, CellsIn.nil _ _, fun r hr => by simp at hr⟩
  · have hlm : len ≤ m' := by rw [hmm]; split <;> omega
    have key : ∀ i, i < len → ∃ r : α, Good r ∧ (f r).length = m ∧ ∀ j u, (f r)[j]? = some u → w.cell? ((a.add (i * m)).add j) = some u := by
      intro i hil
      obtain ⟨cs', hc, htt⟩ := hi i (by omega)
      rw [hC] at hc
      obtain ⟨_, hcl, hat⟩ := World.cells?_some hc
      obtain ⟨r, hr, hw⟩ := hopen _ _ _ hcl htt
      refine ⟨r, hw, by rw [← hr, hcl], fun j u hu => ?_⟩
      have hj : j < m := by rw [← hcl, hr]; exact (List.getElem?_eq_some_iff.mp hu).1
      rw [hat j hj, hr]; exact hu
    have key2 : ∃ L : List α, L.length = len ∧ ∀ i r, L[i]? = some r → Good r ∧ (f r).length = m ∧ ∀ j u, (f r)[j]? = some u → w.cell? ((a.add (i * m)).add j) = some u := by
      refine ⟨List.ofFn (fun i : Fin len => Classical.choose (key i.1 i.2)), by simp, fun i r hr => ?_⟩
      have hil : i < len := by have := (List.getElem?_eq_some_iff.mp hr).1; simpa using this
      rw [List.getElem?_ofFn, dif_pos hil] at hr
      injection hr with hr
      rw [← hr]
      exact Classical.choose_spec (key i hil)
    obtain ⟨L, hLl, hL⟩ := key2
    refine ⟨some a, cap, L, by rw [hLl]; exact hcs, by rw [hLl]; omega, fun k r hr => ?_, fun r hr => ?_⟩
    · have h00 : 0 < L.length := by have := (List.getElem?_eq_some_iff.mp hr).1; omega
      have hs : a.spot = none := by
        obtain ⟨_, hl0, q⟩ := hL 0 _ (List.getElem?_eq_getElem h00)
        have q0 := q 0 _ (List.getElem?_eq_getElem (by omega))
        rw [Nat.zero_mul] at q0
        exact World.cell?_spot (by simpa [Addr.add] using q0)
      obtain ⟨_, hl1, hk⟩ := hL k r hr
      obtain ⟨b, o, s⟩ := a
      simp only at hs
      subst hs
      refine ⟨b, o, rfl, ?_, fun j u hu => ?_⟩
      · have q := hk 0 _ (List.getElem?_eq_getElem (by omega))
        rw [add_plain] at q
        unfold World.cell? at q
        rcases Nat.lt_or_ge b w.heap.size with q' | q'
        · exact q'
        · rw [Array.getElem?_eq_none q'] at q; cases q
      · have := hk j u hu
        rwa [add_plain] at this
    · obtain ⟨k, hk⟩ := List.mem_iff_getElem?.1 hr
      exact (hL k r hk).1
end
end Go.Proofs.YtlideagcmhlkeaaDoor

/- Sources as values: rules, eras, zones, links; where their cells lie. No function of the program. -/
namespace Go.Proofs.YtlideagcmhlkeaaDoor
open Go.RowKit
set_option linter.unusedVariables false

/-- an era's cells -/
structure EV where
  off : Int
  kind : Int
  save : Int
  set : ByteArray
  fmt : ByteArray
  ui : Bool
  uy : Int
  um : Int
  dk : Int
  dw : Int
  dd : Int
  asec : Int
  ab : Int
def EV.cells (e : EV) : List Value := [.int .i64 e.off, .int .i64 e.kind, .int .i64 e.save, .string e.set, .string e.fmt, .bool e.ui, .int .i64 e.uy, .int .i64 e.um, .int .i64 e.dk, .int .i64 e.dw, .int .i64 e.dd, .int .i64 e.asec, .int .i64 e.ab]
/-- a link's cells -/
structure KV where
  target : ByteArray
  name : ByteArray
def KV.cells (k : KV) : List Value := [.string k.target, .string k.name]
/-- a zone's cells, and its eras -/
structure ZV where
  name : ByteArray
  A : Option Addr
  c : Nat
  eras : List EV
def ZV.cells (z : ZV) : List Value := [.string z.name, .slice z.A z.eras.length z.c]
/-- a source's cells, and its parts -/
structure SV where
  rA : Option Addr
  rc : Nat
  rules : List RV
  zA : Option Addr
  zc : Nat
  zones : List ZV
  kA : Option Addr
  kc : Nat
  links : List KV
  hA : Option Addr
  hc : Nat
  shifts : List ByteArray
def SV.agg (s : SV) : Array Value := #[.slice s.rA s.rules.length s.rc, .slice s.zA s.zones.length s.zc, .slice s.kA s.links.length s.kc, .slice s.hA s.shifts.length s.hc]
structure SrcIn (w : World) (s : SV) : Prop where
  rules : CellsIn 11 RV.cells w s.rA s.rules
  zones : CellsIn 2 ZV.cells w s.zA s.zones
  links : CellsIn 2 KV.cells w s.kA s.links
  shifts : CellsIn 1 (fun b : ByteArray => [Value.string b]) w s.hA s.shifts
  eras : ∀ z ∈ s.zones, CellsIn 13 EV.cells w z.A z.eras
theorem SrcIn.below {w w' : World} {s : SV} (h : SrcIn w s) (hb : Below w.heap.size w w') : SrcIn w' s :=
  ⟨h.rules.below hb, h.zones.below hb, h.links.below hb, h.shifts.below hb, fun z hz => (h.eras z hz).below hb⟩
/-- the cells of the element at a place -/
theorem CellsIn.at_ {α : Type} {m : Nat} {f : α → List Value} {w : World} {A : Option Addr} {L : List α} (h : CellsIn m f w A L) (k : Nat) (r : α) (hr : L[k]? = some r) :
    ∃ b o, A = some ⟨b, o, none⟩ ∧ b < w.heap.size ∧ ∀ j u, (f r)[j]? = some u → w.cell? ⟨b, o + k * m + j, none⟩ = some u := h k r hr
end Go.Proofs.YtlideagcmhlkeaaDoor

/- append(nil, x...): a copy in a row of its own, whatever slice x is. No function of the program. -/
namespace Go.Proofs.YtlideagcmhlkeaaDoor
open Go.RowKit
set_option linter.unusedVariables false

section
variable {P : Program} {w : World}
theorem row_is {base n size : Nat} {e : TypeId} {v : Value} {xs : List Value} (h : w.ownsRow base e size v n xs) : ∃ A c, v = .slice A n c := by
  rcases h.2 with ⟨rfl, rfl⟩ | ⟨g, cap, cur, rfl, _⟩
  · exact ⟨_, _, rfl⟩
  · exact ⟨_, _, rfl⟩
/-- append([]T{}, x...): the base is a literal of no elements -/
theorem run_append_lit0 (t ty e : TypeId) (i : TypeInfo) (ht : P.underlying t = some (.slice e)) (hi : P.info? e = some i) (A : Option Addr) (c B : Nat) :
    (Builtin.append_ #[t, t] ty #[.slice (some ⟨B, 0, none⟩) 0 0, .slice A 0 c]).run P w = .ok (.slice (some ⟨B, 0, none⟩) 0 0) w := by
  cases A with
  | none => simp [Builtin.append_, run_underlying ht, sizeOf, typeInfo, hi, Builtin.lenOf, Builtin.firstCells, loadCells, loadCellsFrom, storeCells]
  | some a => simp [Builtin.append_, run_underlying ht, sizeOf, typeInfo, hi, Builtin.lenOf, Builtin.firstCells, loadCells, loadCellsFrom, storeCells]
theorem run_append_lit (base : Nat) (t ty e : TypeId) (i : TypeInfo) (z : Value) (size bytes B : Nat) (ht : P.underlying t = some (.slice e)) (hi : P.info? e = some i) (hz : i.zero = some z)
    (hsize : i.size = size) (hby : i.bytes = bytes) (hzs : z.cells.size = size) (hsz : 0 < size) (hown : w.ownsRow base e size (.slice (some ⟨B, 0, none⟩) 0 0) 0 [])
    (A : Option Addr) (m c : Nat) (news : List Value) (hl : news.length = m * size) (hnews : ∀ j u, news[j]? = some u → ∃ b of_, A = some ⟨b, of_, none⟩ ∧ w.cell? ⟨b, of_ + j, none⟩ = some u) (h1 : ∀ u ∈ news, u.oneCell' = true)
    (h63 : m ≤ maxLen) (hbytes : m * bytes ≤ 140737488355328) (hbase : base ≤ w.heap.size) :
    ∃ A' c' w', (Builtin.append_ #[t, t] ty #[.slice (some ⟨B, 0, none⟩) 0 0, .slice A m c]).run P w = .ok (.slice A' m c') w' ∧ w'.ownsRow base e size (.slice A' m c') m news ∧ w.grownBy w' none := by
  by_cases hm : m = 0
  · subst hm
    have hn : news = [] := List.eq_nil_of_length_eq_zero (by rw [hl]; exact Nat.zero_mul _)
    subst hn
    exact ⟨_, _, w, run_append_lit0 (P := P) (w := w) t ty e i ht hi A c B, hown, World.grownBy.refl w _⟩
  · subst hsize
    subst hby
    have hpos : 0 < news.length := by rw [hl]; exact Nat.mul_pos (by omega) hsz
    obtain ⟨b, of_, rfl, _⟩ := hnews 0 _ (List.getElem?_eq_getElem hpos)
    have hr := run_append_grow (P := P) w t ty e i z ht hi hz ⟨B, 0, none⟩ 0 0 [] (by simp) (fun j u hu => by simp at hu) ⟨b, of_, none⟩ m c news hl (fun j u hu => by
      obtain ⟨b', o', e', hc⟩ := hnews j u hu
      injection e' with e'
      injection e' with e1 e2
      subst e1 e2
      rw [show (⟨b, of_, none⟩ : Addr).add j = ⟨b, of_ + j, none⟩ by unfold Addr.add; split <;> simp_all]
      exact hc) (by omega) (by simp only [maxLen] at h63; omega) (growslice_fits (by omega) (by rw [Nat.zero_add]; exact hbytes))
    have hge := grownCap_ge w (0 + m) 0 e
    have hcm : grownCap w (0 + m) 0 e ≤ maxLen := grownCap_le_maxLen w (0 + m) 0 e (by omega)
    refine ⟨_, _, _, by rw [hr, Nat.zero_add], ⟨hl, .inr ⟨w.heap.size, _, _, by first | rfl | simp, hbase, heap_alloc_new w.drew _, by rw [Nat.zero_add] at hge; exact hge, by rw [Nat.zero_add] at hcm; exact hcm, ?_, ?_⟩⟩, ⟨rfl, rfl, rfl, by simp, fun k hk _ => heap_alloc_old w.drew _ hk⟩⟩
    · rw [Nat.zero_add] at hge
      simp only [Array.size_append, List.size_toArray, size_zeroCells, hzs, hl, List.length_nil, Nat.zero_add, ← Nat.add_mul]
      congr 1
      omega
    · rw [← hl]
      simp only [Array.toList_append, List.nil_append]
      exact List.take_left
theorem wp_append_lit {o : Oper} {a : Act} {K : Act → World → Prop} {Q : Exit → Act → World → Prop} (s x : Operand) (t : TypeId)
    (ho : o.op = .call { callee := .builtin .append, args := #[s, x], argTypes := #[t, t] })
    (base : Nat) (e : TypeId) (i : TypeInfo) (z : Value) (size bytes B : Nat) (ht : P.underlying t = some (.slice e)) (hi : P.info? e = some i) (hz : i.zero = some z)
    (hsize : i.size = size) (hby : i.bytes = bytes) (hzs : z.cells.size = size) (hsz : 0 < size) (hs : a.eval s = .slice (some ⟨B, 0, none⟩) 0 0) (hown : w.ownsRow base e size (.slice (some ⟨B, 0, none⟩) 0 0) 0 [])
    (A : Option Addr) (m c : Nat) (news : List Value) (hx : a.eval x = .slice A m c) (hl : news.length = m * size) (hnews : ∀ j u, news[j]? = some u → ∃ b of_, A = some ⟨b, of_, none⟩ ∧ w.cell? ⟨b, of_ + j, none⟩ = some u) (h1 : ∀ u ∈ news, u.oneCell' = true)
    (h63 : m ≤ maxLen) (hbytes : m * bytes ≤ 140737488355328) (hbase : base ≤ w.heap.size)
    (h : ∀ A' c' w', w'.ownsRow base e size (.slice A' m c') m news → w.grownBy w' none → K (a.put o.dst (.slice A' m c')) w') : o.wp P a w K Q := by
  obtain ⟨A', c', w', hrun, h2, h3⟩ := run_append_lit (P := P) (w := w) base t o.type e i z size bytes B ht hi hz hsize hby hzs hsz hown A m c news hl hnews h1 h63 hbytes hbase
  have q := h A' c' w' h2 h3
  unfold Oper.wp
  simp [execOp, ho, resolve, invoke, builtin, hs, hx, hrun, Result.andThen]
  exact q
theorem wpList_append_lit {ops : Array Oper} {rest : List Oper} {o : Oper} {a : Act} {Q : Exit → Act → World → Prop} (hgd : o.guard = none) (s x : Operand) (t : TypeId)
    (ho : o.op = .call { callee := .builtin .append, args := #[s, x], argTypes := #[t, t] })
    (base : Nat) (e : TypeId) (i : TypeInfo) (z : Value) (size bytes B : Nat) (ht : P.underlying t = some (.slice e)) (hi : P.info? e = some i) (hz : i.zero = some z)
    (hsize : i.size = size) (hby : i.bytes = bytes) (hzs : z.cells.size = size) (hsz : 0 < size) (hs : a.eval s = .slice (some ⟨B, 0, none⟩) 0 0) (hown : w.ownsRow base e size (.slice (some ⟨B, 0, none⟩) 0 0) 0 [])
    (A : Option Addr) (m c : Nat) (news : List Value) (hx : a.eval x = .slice A m c) (hl : news.length = m * size) (hnews : ∀ j u, news[j]? = some u → ∃ b of_, A = some ⟨b, of_, none⟩ ∧ w.cell? ⟨b, of_ + j, none⟩ = some u) (h1 : ∀ u ∈ news, u.oneCell' = true)
    (h63 : m ≤ maxLen) (hbytes : m * bytes ≤ 140737488355328) (hbase : base ≤ w.heap.size)
    (h : ∀ A' c' w', w'.ownsRow base e size (.slice A' m c') m news → w.grownBy w' none → wpList P ops Q rest (a.put o.dst (.slice A' m c')) w') : wpList P ops Q (o :: rest) a w :=
  wpList_plain hgd fun _ hK => wp_append_lit s x t ho base e i z size bytes B ht hi hz hsize hby hzs hsz hs hown A m c news hx hl hnews h1 h63 hbytes hbase fun A' c' w' h2 h3 => hK _ _ (h A' c' w' h2 h3)
/-- the same in a region that draws its order -/
theorem step_append_lit {ops : Array Oper} {o : Oper} {a : Act} {K : Act → World → Prop} {Q : Exit → Act → World → Prop} {E : Prop} (hgd : o.guard = none) (s x : Operand) (t : TypeId)
    (ho : o.op = .call { callee := .builtin .append, args := #[s, x], argTypes := #[t, t] })
    (base : Nat) (e : TypeId) (i : TypeInfo) (z : Value) (size bytes B : Nat) (ht : P.underlying t = some (.slice e)) (hi : P.info? e = some i) (hz : i.zero = some z)
    (hsize : i.size = size) (hby : i.bytes = bytes) (hzs : z.cells.size = size) (hsz : 0 < size) (hs : a.eval s = .slice (some ⟨B, 0, none⟩) 0 0) (hown : w.ownsRow base e size (.slice (some ⟨B, 0, none⟩) 0 0) 0 [])
    (A : Option Addr) (m c : Nat) (news : List Value) (hx : a.eval x = .slice A m c) (hl : news.length = m * size) (hnews : ∀ j u, news[j]? = some u → ∃ b of_, A = some ⟨b, of_, none⟩ ∧ w.cell? ⟨b, of_ + j, none⟩ = some u) (h1 : ∀ u ∈ news, u.oneCell' = true)
    (h63 : m ≤ maxLen) (hbytes : m * bytes ≤ 140737488355328) (hbase : base ≤ w.heap.size)
    (h : ∀ A' c' w', w'.ownsRow base e size (.slice A' m c') m news → w.grownBy w' none → K (a.put o.dst (.slice A' m c')) w') :
    if Region.wanted o (yielded ops a.tmps) = true then Oper.wp P o a w K Q else E := by
  have hw : Region.wanted o (yielded ops a.tmps) = true := by simp [Region.wanted, hgd]
  rw [if_pos hw]
  exact wp_append_lit s x t ho base e i z size bytes B ht hi hz hsize hby hzs hsz hs hown A m c news hx hl hnews h1 h63 hbytes hbase h
/-- an append to a row of the call's own, in a region that draws its order -/
theorem step_append_own {ops : Array Oper} {o : Oper} {a : Act} {K : Act → World → Prop} {Q : Exit → Act → World → Prop} {E : Prop} (hgd : o.guard = none) (s x : Operand) (t : TypeId)
    (ho : o.op = .call { callee := .builtin .append, args := #[s, x], argTypes := #[t, t] })
    (base : Nat) (e : TypeId) (i : TypeInfo) (z : Value) (size bytes : Nat) (ht : P.underlying t = some (.slice e)) (hi : P.info? e = some i) (hz : i.zero = some z)
    (hsize : i.size = size) (hby : i.bytes = bytes) (hzs : z.cells.size = size) (hsz : 0 < size)
    (v : Value) (n : Nat) (xs : List Value) (hs : a.eval s = v) (hown : w.ownsRow base e size v n xs)
    (ad : Addr) (m c : Nat) (news : List Value) (hx : a.eval x = .slice (some ad) m c) (hl : news.length = m * size) (hnews : ∀ j u, news[j]? = some u → w.cell? (ad.add j) = some u) (h1 : ∀ u ∈ news, u.oneCell' = true)
    (h63 : n + m ≤ maxLen) (hbytes : (n + m) * bytes ≤ 140737488355328) (hbase : base ≤ w.heap.size)
    (h : ∀ v' w', w'.ownsRow base e size v' (n + m) (xs ++ news) → w.grownBy w' v.ownBlock → K (a.put o.dst v') w') :
    if Region.wanted o (yielded ops a.tmps) = true then Oper.wp P o a w K Q else E := by
  have hw : Region.wanted o (yielded ops a.tmps) = true := by simp [Region.wanted, hgd]
  rw [if_pos hw]
  exact wp_append_own w s x t ho base e i z size bytes ht hi hz hsize hby hzs hsz v n xs hs hown ad m c news hx hl hnews h1 h63 hbytes hbase fun v' w' h2 h3 _ => h v' w' h2 h3
end
end Go.Proofs.YtlideagcmhlkeaaDoor

/- Blocks whose first cells are known, written in place; '[]byte(s)'. No function of the program. -/
namespace Go.Proofs.YtlideagcmhlkeaaDoor
open Go.RowKit
set_option linter.unusedVariables false

/-- the first cells of block g are these, none of them frozen -/
def Cs (W : World) (g : Nat) (xs : List Value) : Prop :=
  ∃ cur t fz, W.heap[g]? = some (.cells cur t fz) ∧ (∀ j, j < xs.length → cur[j]? = xs[j]?) ∧ ∀ j, j < xs.length → ¬ (fz.1 ≤ j ∧ j < fz.2)
section
variable {W W' : World} {g : Nat} {xs : List Value}
theorem Cs.lt (h : Cs W g xs) : g < W.heap.size := by
  obtain ⟨cur, t, fz, h1, _⟩ := h
  rcases Nat.lt_or_ge g W.heap.size with hlt | hge
  · exact hlt
  · rw [Array.getElem?_eq_none hge] at h1; cases h1
theorem Cs.cell (h : Cs W g xs) (j : Nat) (u : Value) (hu : xs[j]? = some u) : W.cell? ⟨g, j, none⟩ = some u := by
  obtain ⟨cur, t, fz, h1, h2, _⟩ := h
  rw [cell_of_row W g j cur t fz h1, h2 j (List.getElem?_eq_some_iff.mp hu).1, hu]
theorem Cs.frozen (h : Cs W g xs) (j : Nat) (hj : j < xs.length) : W.frozen? ⟨g, j, none⟩ = false := by
  obtain ⟨cur, t, fz, h1, _, h3⟩ := h
  have := h3 j hj
  simp only [World.frozen?, h1]
  simpa using this
theorem Cs.below {B : Nat} (h : Cs W g xs) (hb : Below B W W') (hg : g < B) : Cs W' g xs := by
  obtain ⟨cur, t, fz, h1, h2⟩ := h
  exact ⟨cur, t, fz, (hb.block g hg).trans h1, h2⟩
theorem Cs.belowS (h : Cs W g xs) (hb : Below W.heap.size W W') : Cs W' g xs := h.below hb h.lt
theorem Cs.alloc (h : Cs W g xs) (o : Obj) : Cs (W.alloc o) g xs := h.belowS ((Below.refl _ _).alloc (Nat.le_refl _) o)
theorem Cs.drewN (h : Cs W g xs) (n : Nat) : Cs (W.drewN n) g xs := h
theorem Cs.set_ (h : Cs W g xs) (i : Nat) (u : Value) : Cs (W.setCell ⟨g, i, none⟩ u) g (xs.set i u) := by
  obtain ⟨cur, t, fz, h1, h2, h3⟩ := h
  refine ⟨cur.setIfInBounds i u, t, fz, by simp [World.setCell, Array.getElem?_modify, h1], fun j hj => ?_, fun j hj => h3 j (by rwa [List.length_set] at hj)⟩
  rw [List.length_set] at hj
  have q := h2 j hj
  rw [Array.getElem?_setIfInBounds, List.getElem?_set]
  by_cases e : i = j
  · subst e
    have hc : i < cur.size := by
      rw [List.getElem?_eq_getElem hj] at q
      exact (Array.getElem?_eq_some_iff.1 q).1
    simp [hc, hj]
  · simp [e, q]
theorem Cs.far (h : Cs W g xs) {p : Addr} (hp : g ≠ p.block) (u : Value) : Cs (W.setCell p u) g xs := by
  obtain ⟨cur, t, fz, h1, h2⟩ := h
  exact ⟨cur, t, fz, (Below.heap_setCell W p u g hp).trans h1, h2⟩
theorem Cs.same (h : Cs W g xs) {ys : List Value} (e : xs = ys) : Cs W g ys := e ▸ h
end
theorem Cs.new (W : World) (t : TypeId) (cs : Array Value) : Cs (W.alloc (.cells cs t)) W.heap.size cs.toList :=
  ⟨cs, t, (0, 0), heap_alloc_new W _, fun j hj => by rw [Array.getElem?_toList], fun j hj => by simp⟩
/-- the first cells of block g are these (to be read) -/
def Rd (W : World) (g : Nat) (xs : List Value) : Prop := ∃ cur t fz, W.heap[g]? = some (.cells cur t fz) ∧ ∀ j, j < xs.length → cur[j]? = xs[j]?
theorem Rd.lt {W : World} {g : Nat} {xs : List Value} (h : Rd W g xs) : g < W.heap.size := by
  obtain ⟨cur, t, fz, h1, _⟩ := h
  rcases Nat.lt_or_ge g W.heap.size with hlt | hge
  · exact hlt
  · rw [Array.getElem?_eq_none hge] at h1; cases h1
theorem Rd.cell {W : World} {g : Nat} {xs : List Value} (h : Rd W g xs) (j : Nat) (u : Value) (hu : xs[j]? = some u) : W.cell? ⟨g, j, none⟩ = some u := by
  obtain ⟨cur, t, fz, h1, h2⟩ := h
  rw [cell_of_row W g j cur t fz h1, h2 j (List.getElem?_eq_some_iff.mp hu).1, hu]
theorem Rd.below {W W' : World} {g B : Nat} {xs : List Value} (h : Rd W g xs) (hb : Below B W W') (hg : g < B) : Rd W' g xs := by
  obtain ⟨cur, t, fz, h1, h2⟩ := h
  exact ⟨cur, t, fz, (hb.block g hg).trans h1, h2⟩
theorem Rd.belowS {W W' : World} {g : Nat} {xs : List Value} (h : Rd W g xs) (hb : Below W.heap.size W W') : Rd W' g xs := h.below hb h.lt
theorem Rd.alloc {W : World} {g : Nat} {xs : List Value} (h : Rd W g xs) (o : Obj) : Rd (W.alloc o) g xs := h.belowS ((Below.refl _ _).alloc (Nat.le_refl _) o)
end Go.Proofs.YtlideagcmhlkeaaDoor

/- Copies of sources: rows of their own; what a store leaves. No function of the program. -/
namespace Go.Proofs.YtlideagcmhlkeaaDoor
open Go.RowKit
set_option linter.unusedVariables false
set_option linter.unusedSimpArgs false

theorem infoRuleC : (Tryd.prog.info? 83).map (fun i => (i.zero, i.size, i.bytes)) = some (some (.agg #[.string ⟨#[]⟩, .int .i64 0, .int .i64 0, .int .i64 0, .int .i64 0, .int .i64 0, .int .i64 0, .int .i64 0, .int .i64 0, .int .i64 0, .string ⟨#[]⟩]), 11, 104) := by kernel_rfl
theorem infoEra : (Tryd.prog.info? 47).map (fun i => (i.zero, i.size, i.bytes)) = some (some (.agg #[.int .i64 0, .int .i64 0, .int .i64 0, .string ⟨#[]⟩, .string ⟨#[]⟩, .bool false, .int .i64 0, .int .i64 0, .int .i64 0, .int .i64 0, .int .i64 0, .int .i64 0, .int .i64 0]), 13, 120) := by kernel_rfl
theorem infoZone : (Tryd.prog.info? 39).map (fun i => (i.zero, i.size, i.bytes)) = some (some (.agg #[.string ⟨#[]⟩, .slice none 0 0]), 2, 40) := by kernel_rfl
theorem infoLink : (Tryd.prog.info? 94).map (fun i => (i.zero, i.size, i.bytes)) = some (some (.agg #[.string ⟨#[]⟩, .string ⟨#[]⟩]), 2, 32) := by kernel_rfl
theorem infoStrC : (Tryd.prog.info? 9).map (fun i => (i.zero, i.size, i.bytes)) = some (some (.string ⟨#[]⟩), 1, 16) := by kernel_rfl
/-- the cells of a list of elements -/
theorem fl_len {α : Type} {f : α → List Value} {m : Nat} (hf : ∀ a, (f a).length = m) (L : List α) : (L.flatMap f).length = L.length * m := by
  induction L with
  | nil => simp
  | cons a L ih => rw [List.flatMap_cons, List.length_append, ih, hf, List.length_cons, Nat.succ_mul]; omega
theorem fl_get {α : Type} {f : α → List Value} {m : Nat} (hf : ∀ a, (f a).length = m) (hm : 0 < m) : ∀ (L : List α) (j : Nat) (u : Value), (L.flatMap f)[j]? = some u → ∃ r x, L[r]? = some x ∧ j = r * m + j % m ∧ (f x)[j % m]? = some u
  | [], j, u, h => by simp at h
  | a :: L, j, u, h => by
    rw [List.flatMap_cons] at h
    by_cases hj : j < m
    · rw [List.getElem?_append_left (by rw [hf]; exact hj)] at h
      exact ⟨0, a, rfl, by rw [Nat.mod_eq_of_lt hj]; omega, by rw [Nat.mod_eq_of_lt hj]; exact h⟩
    · rw [List.getElem?_append_right (by rw [hf]; omega), hf] at h
      obtain ⟨r, x, h1, h2, h3⟩ := fl_get hf hm L (j - m) u h
      have hmod : (j - m) % m = j % m := by rw [Nat.mod_eq_sub_mod (by omega : m ≤ j)]
      rw [hmod] at h2 h3
      exact ⟨r + 1, x, h1, by rw [Nat.succ_mul]; omega, h3⟩
theorem in_news {α : Type} {f : α → List Value} {m : Nat} (hf : ∀ a, (f a).length = m) (hm : 0 < m) {W : World} {A : Option Addr} {L : List α} (h : CellsIn m f W A L) : ∀ j u, (L.flatMap f)[j]? = some u → ∃ b o, A = some ⟨b, o, none⟩ ∧ W.cell? ⟨b, o + j, none⟩ = some u := fun j u hu => by
  obtain ⟨r, x, h1, h2, h3⟩ := fl_get hf hm L j u hu
  obtain ⟨b, o, hA, _, hc⟩ := h r x h1
  exact ⟨b, o, hA, by rw [h2, ← Nat.add_assoc]; exact hc _ _ h3⟩
theorem len_rule (r : RV) : r.cells.length = 11 := rfl
theorem len_era (r : EV) : r.cells.length = 13 := rfl
theorem len_zone (r : ZV) : r.cells.length = 2 := rfl
theorem len_link (r : KV) : r.cells.length = 2 := rfl
theorem one_fl {α : Type} {f : α → List Value} (hf : ∀ a, ∀ u ∈ f a, u.oneCell' = true) (L : List α) : ∀ u ∈ L.flatMap f, u.oneCell' = true := fun u hu => by
  obtain ⟨a, _, h⟩ := List.mem_flatMap.1 hu
  exact hf a u h
theorem one_rule (r : RV) : ∀ u ∈ r.cells, u.oneCell' = true := fun u hu => by
  simp only [RV.cells, List.mem_cons, List.not_mem_nil, or_false] at hu
  rcases hu with rfl | rfl | rfl | rfl | rfl | rfl | rfl | rfl | rfl | rfl | rfl <;> rfl
theorem one_era (r : EV) : ∀ u ∈ r.cells, u.oneCell' = true := fun u hu => by
  simp only [EV.cells, List.mem_cons, List.not_mem_nil, or_false] at hu
  rcases hu with rfl | rfl | rfl | rfl | rfl | rfl | rfl | rfl | rfl | rfl | rfl | rfl | rfl <;> rfl
theorem one_link (r : KV) : ∀ u ∈ r.cells, u.oneCell' = true := fun u hu => by
  simp only [KV.cells, List.mem_cons, List.not_mem_nil, or_false] at hu
  rcases hu with rfl | rfl <;> rfl
/-- a list in a row of the call's own, from this block on -/
def RowOf {α : Type} (W : World) (base : Nat) (e : TypeId) (m : Nat) (f : α → List Value) (A : Option Addr) (c : Nat) (L : List α) : Prop := W.ownsRow base e m (.slice A L.length c) L.length (L.flatMap f)
theorem RowOf.below {α : Type} {W W' : World} {base : Nat} {e : TypeId} {m : Nat} {f : α → List Value} {A : Option Addr} {c : Nat} {L : List α} (h : RowOf W base e m f A c L) (hb : Below W.heap.size W W') : RowOf W' base e m f A c L := own_below h hb
/-- the zones that are copied so far, each with a row of its own for its eras -/
structure ZonesIn (W : World) (base : Nat) (Z Y : List ZV) : Prop where
  same : Y.length = Z.length ∧ ∀ (i : Nat) (z y : ZV), Z[i]? = some z → Y[i]? = some y → y.name = z.name ∧ y.eras = z.eras
  eras : ∀ (i : Nat) (y : ZV), Y[i]? = some y → RowOf W base 47 13 EV.cells y.A y.c y.eras
  apart : ∀ (i j : Nat) (y z : ZV), i < j → Y[i]? = some y → Y[j]? = some z → ∀ (g : Nat), y.A = some ⟨g, 0, none⟩ → z.A ≠ some ⟨g, 0, none⟩
theorem ZonesIn.below {W W' : World} {base : Nat} {Z Y : List ZV} (h : ZonesIn W base Z Y) (hb : Below W.heap.size W W') : ZonesIn W' base Z Y := ⟨h.same, fun i y hy => (h.eras i y hy).below hb, h.apart⟩
/-- a copy: the same values, in rows of its own -/
structure CopyOf (W : World) (base : Nat) (s t : SV) : Prop where
  rules : t.rules = s.rules ∧ RowOf W base 83 11 RV.cells t.rA t.rc t.rules
  zones : RowOf W base 39 2 ZV.cells t.zA t.zc t.zones ∧ ZonesIn W base s.zones t.zones
  links : t.links = s.links ∧ RowOf W base 94 2 KV.cells t.kA t.kc t.links
  shifts : t.shifts = s.shifts ∧ RowOf W base 9 1 (fun b : ByteArray => [Value.string b]) t.hA t.hc t.shifts
theorem own_base {w : World} {b b' n size : Nat} {e : TypeId} {v : Value} {xs : List Value} (h : w.ownsRow b e size v n xs) (hb : b' ≤ b) : w.ownsRow b' e size v n xs := by
  refine ⟨h.1, ?_⟩
  rcases h.2 with q | ⟨g, cap, cur, h1, h2, h3⟩
  · exact .inl q
  · exact .inr ⟨g, cap, cur, h1, Nat.le_trans hb h2, h3⟩
theorem own_farj {w : World} {base n size : Nat} {e : TypeId} {v : Value} {xs : List Value} (h : w.ownsRow base e size v n xs) (b j : Nat) (hb : b < base) (u : Value) : (w.setCell ⟨b, j, none⟩ u).ownsRow base e size v n xs := by
  refine ⟨h.1, ?_⟩
  rcases h.2 with q | ⟨g, cap, cur, h1, h2, h3, h4⟩
  · exact .inl q
  · exact .inr ⟨g, cap, cur, h1, h2, (Below.heap_setCell w _ u g (by show g ≠ b; omega)).trans h3, h4⟩
theorem blk_drew1 {W : World} {g : Nat} {t : TypeId} {cs : Array Value} (h : Blk W g t cs) : Blk W.drew g t cs := h
theorem ZonesIn.base_le {W : World} {b b' : Nat} {Z Y : List ZV} (h : ZonesIn W b Z Y) (hb : b' ≤ b) : ZonesIn W b' Z Y := ⟨h.same, fun i y hy => own_base (h.eras i y hy) hb, h.apart⟩
theorem grown_below {W W' : World} (h : W.grownBy W' none) : Below W.heap.size W W' := (Below.refl _ _).grown h (Nat.le_refl _) (fun k hk => by cases hk)
theorem row_other {W W' : World} {b1 b2 e1 e2 n1 n2 s1 s2 : Nat} {v1 v2 : Value} {x1 x2 : List Value} (h : W.ownsRow b1 e1 s1 v1 n1 x1) (k : W.ownsRow b2 e2 s2 v2 n2 x2) (hne : e1 ≠ e2) (hg : W.grownBy W' v2.ownBlock) : W'.ownsRow b1 e1 s1 v1 n1 x1 := by
  refine ⟨h.1, ?_⟩
  rcases h.2 with q | ⟨g, cap, cur, hv, hb, hh, hr⟩
  · exact .inl q
  · refine .inr ⟨g, cap, cur, hv, hb, (hg.block g (h.lt g (by rw [hv]; rfl)).2 fun e => ?_).trans hh, hr⟩
    rcases k.2 with ⟨rfl, _⟩ | ⟨g', cap', cur', rfl, _, hh', _⟩
    · cases e
    · have : g = g' := Option.some.inj e
      subst this
      rw [hh] at hh'
      injection hh' with hh'
      injection hh' with _ q _
      exact hne q
theorem ZonesIn.other {W W' : World} {base b2 n2 s2 : Nat} {e2 : TypeId} {v2 : Value} {x2 : List Value} {Z Y : List ZV} (h : ZonesIn W base Z Y) (k : W.ownsRow b2 e2 s2 v2 n2 x2) (hne : 47 ≠ e2) (hg : W.grownBy W' v2.ownBlock) : ZonesIn W' base Z Y := ⟨h.same, fun i y hy => row_other (h.eras i y hy) k hne hg, h.apart⟩
theorem zones_snocH {wr W : World} {b b2 : Nat} {Z Y : List ZV} {k : Nat} {z : ZV} {eA : Option Addr} {ec : Nat} (h : ZonesIn wr b (Z.take k) Y) (hz : Z[k]? = some z) (h2 : ZonesIn W b (Z.take k) Y) (hle : b ≤ wr.heap.size) (hle2 : wr.heap.size ≤ b2)
    (hn : RowOf W b2 47 13 EV.cells eA ec z.eras) : ZonesIn W b (Z.take (k + 1)) (Y ++ [⟨z.name, eA, ec, z.eras⟩]) := by
  have hkl := (List.getElem?_eq_some_iff.1 hz).1
  have hYl : Y.length = k := by rw [h.same.1, List.length_take]; omega
  have key : ∀ (i : Nat) (y : ZV), (Y ++ [⟨z.name, eA, ec, z.eras⟩])[i]? = some y → (i < k ∧ Y[i]? = some y) ∨ (i = k ∧ y = ⟨z.name, eA, ec, z.eras⟩) := fun i y hy => by
    by_cases hi : i < k
    · rw [List.getElem?_append_left (by omega)] at hy
      exact .inl ⟨hi, hy⟩
    · rw [List.getElem?_append_right (by omega), hYl] at hy
      have hi0 : i - k = 0 := by
        have := (List.getElem?_eq_some_iff.1 hy).1
        simp at this
        omega
      rw [hi0] at hy
      simp only [List.getElem?_cons_zero, Option.some.injEq] at hy
      exact .inr ⟨by omega, hy.symm⟩
  refine ⟨⟨by rw [List.length_append, hYl, List.length_take]; simp; omega, fun i a y ha hy => ?_⟩, fun i y hy => ?_, fun i j y y' hij hy hy' g hg hg' => ?_⟩
  · rcases key i y hy with ⟨hi, hy2⟩ | ⟨rfl, rfl⟩
    · exact h.same.2 i a y (by rw [List.getElem?_take, if_pos hi]; rw [List.getElem?_take, if_pos (by omega)] at ha; exact ha) hy2
    · rw [List.getElem?_take, if_pos (by omega), hz] at ha
      injection ha with ha
      subst ha
      exact ⟨rfl, rfl⟩
  · rcases key i y hy with ⟨hi, hy2⟩ | ⟨rfl, rfl⟩
    · exact h2.eras i y hy2
    · exact own_base hn (by omega)
  · rcases key i y hy with ⟨hi, hy2⟩ | ⟨rfl, rfl⟩
    · rcases key j y' hy' with ⟨hj, hy3⟩ | ⟨rfl, rfl⟩
      · exact h2.apart i j y y' hij hy2 hy3 g hg hg'
      · have l1 := (World.ownsRow.lt (h.eras i y hy2) g (by rw [hg]; rfl)).2
        have l2 := (World.ownsRow.lt hn g (by show (Value.slice eA _ ec).ownBlock = some g; simp only at hg'; rw [hg']; rfl)).1
        omega
    · rcases key j y' hy' with ⟨hj, hy3⟩ | ⟨rfl, rfl⟩
      · omega
      · omega
theorem zones_snocG {wr W : World} {b b2 : Nat} {Z Y : List ZV} {k : Nat} {z : ZV} {eA : Option Addr} {ec : Nat} (h : ZonesIn wr b (Z.take k) Y) (hz : Z[k]? = some z) (hb : Below wr.heap.size wr W) (hle : b ≤ wr.heap.size) (hle2 : wr.heap.size ≤ b2)
    (hn : RowOf W b2 47 13 EV.cells eA ec z.eras) : ZonesIn W b (Z.take (k + 1)) (Y ++ [⟨z.name, eA, ec, z.eras⟩]) := zones_snocH h hz (h.below hb) hle hle2 hn
theorem flat_pick {α : Type} {f : α → List Value} {m : Nat} (hf : ∀ a, (f a).length = m) : ∀ (l : List α) (k j : Nat) (x : α), j < m → l[k]? = some x → (l.flatMap f)[k * m + j]? = (f x)[j]?
  | [], k, j, x, _, h => by simp at h
  | a :: l, 0, j, x, hj, h => by
    simp only [List.getElem?_cons_zero, Option.some.injEq] at h
    subst h
    rw [List.flatMap_cons, Nat.zero_mul, Nat.zero_add, List.getElem?_append_left (by rw [hf]; exact hj)]
  | a :: l, k + 1, j, x, hj, h => by
    simp only [List.getElem?_cons_succ] at h
    rw [List.flatMap_cons, List.getElem?_append_right (by rw [hf, Nat.succ_mul]; omega), hf, show (k + 1) * m + j - m = k * m + j by rw [Nat.succ_mul]; omega]
    exact flat_pick hf l k j x hj h
/-- the elements of a row, as a slice that is read -/
theorem RowOf.cellsIn {α : Type} {W : World} {base : Nat} {e : TypeId} {m : Nat} {f : α → List Value} {A : Option Addr} {c : Nat} {L : List α} (h : RowOf W base e m f A c L) (hf : ∀ a, (f a).length = m) : CellsIn m f W A L := by
  intro k r hr
  have hpos : 0 < L.length := by have := (List.getElem?_eq_some_iff.1 hr).1; omega
  obtain ⟨B, cap, hv, hB, hlt, hcap, hc⟩ := own_form h hpos
  injection hv with hA
  refine ⟨B, 0, hA, hlt, fun j u hu => ?_⟩
  rw [Nat.zero_add]
  refine hc _ _ ?_
  have hj : j < m := by rw [← hf r]; exact (List.getElem?_eq_some_iff.1 hu).1
  rw [flat_pick hf L k j r hj hr]
  exact hu
theorem CopyOf.src {W : World} {base : Nat} {s t : SV} (h : CopyOf W base s t) : SrcIn W t :=
  ⟨h.rules.2.cellsIn len_rule, h.zones.1.cellsIn len_zone, h.links.2.cellsIn len_link, h.shifts.2.cellsIn (fun _ => rfl), fun z hz => by
    obtain ⟨i, hi⟩ := List.mem_iff_getElem?.1 hz
    exact (h.zones.2.eras i z hi).cellsIn len_era⟩
/-- a row whose element is altered in one cell -/
theorem flat_set {α : Type} {f : α → List Value} {m : Nat} (hf : ∀ a, (f a).length = m) : ∀ (L : List α) (k j : Nat) (x y : α) (u : Value), j < m → L[k]? = some x → f y = (f x).set j u → (L.flatMap f).set (k * m + j) u = (L.set k y).flatMap f
  | [], k, j, x, y, u, _, h, _ => by simp at h
  | a :: L, 0, j, x, y, u, hj, h, hy => by
    simp only [List.getElem?_cons_zero, Option.some.injEq] at h
    subst h
    rw [List.flatMap_cons, Nat.zero_mul, Nat.zero_add, List.set_append_left _ _ (by rw [hf]; exact hj), List.set_cons_zero, List.flatMap_cons, hy]
  | a :: L, k + 1, j, x, y, u, hj, h, hy => by
    simp only [List.getElem?_cons_succ] at h
    have ih := flat_set hf L k j x y u hj h hy
    rw [List.flatMap_cons, List.set_append_right _ _ (by rw [hf, Nat.succ_mul]; omega), hf, show (k + 1) * m + j - m = k * m + j by rw [Nat.succ_mul]; omega, ih, List.set_cons_succ, List.flatMap_cons]
theorem RowOf.set_ {α : Type} {W : World} {base : Nat} {e : TypeId} {m : Nat} {f : α → List Value} {B c : Nat} {L : List α} (h : RowOf W base e m f (some ⟨B, 0, none⟩) c L) (hf : ∀ a, (f a).length = m) (k j : Nat) (x y : α) (u : Value) (hj : j < m) (hk : L[k]? = some x) (hy : f y = (f x).set j u) :
    RowOf (W.setCell ⟨B, k * m + j, none⟩ u) base e m f (some ⟨B, 0, none⟩) c (L.set k y) := by
  have hlen := fl_len hf L
  have hkl := (List.getElem?_eq_some_iff.1 hk).1
  unfold RowOf at h ⊢
  rw [← flat_set hf L k j x y u hj hk hy, List.length_set]
  obtain ⟨h0, h1⟩ := h
  refine ⟨by rw [List.length_set]; exact h0, ?_⟩
  rcases h1 with ⟨hv, _⟩ | ⟨g, cap, cur, hv, hb, hh, hn, hm, hcs, hx⟩
  · cases hv
  · injection hv with e1 e2 e3
    injection e1 with e1
    injection e1 with e1
    subst e1
    refine .inr ⟨_, cap, cur.setIfInBounds (k * m + j) u, by rw [e3], hb, by simp [World.setCell, Array.getElem?_modify, hh], hn, hm, by simpa using hcs, ?_⟩
    rw [← hx, Array.toList_setIfInBounds, List.take_set]
/-- a store into a row leaves rows of other elements, and boxes of other types -/
theorem block_of {W : World} {b n size g : Nat} {e : TypeId} {v : Value} {xs : List Value} (h : W.ownsRow b e size v n xs) (hg : v.ownBlock = some g) : ∃ cur, W.heap[g]? = some (.cells cur e (0, 0)) := by
  rcases h.2 with ⟨rfl, _⟩ | ⟨g', cap, cur, rfl, _, hh, _⟩
  · cases hg
  · have : g' = g := Option.some.inj hg
    subst this
    exact ⟨cur, hh⟩
theorem row_set_other {W : World} {b1 b2 e1 e2 n1 n2 s1 s2 B j : Nat} {v1 v2 : Value} {x1 x2 : List Value} (h : W.ownsRow b1 e1 s1 v1 n1 x1) (k : W.ownsRow b2 e2 s2 v2 n2 x2) (hB : v2.ownBlock = some B) (hne : e1 ≠ e2) (u : Value) : (W.setCell ⟨B, j, none⟩ u).ownsRow b1 e1 s1 v1 n1 x1 := by
  refine ⟨h.1, ?_⟩
  rcases h.2 with q | ⟨g, cap, cur, hv, hb, hh, hr⟩
  · exact .inl q
  · refine .inr ⟨g, cap, cur, hv, hb, (Below.heap_setCell W _ u g (fun e => ?_)).trans hh, hr⟩
    obtain ⟨cur', hh'⟩ := block_of k hB
    have : g = B := e
    subst this
    rw [hh] at hh'
    injection hh' with hh'
    injection hh' with _ q _
    exact hne q
theorem blk_set_other {W : World} {b2 e2 n2 s2 B j g : Nat} {t : TypeId} {cs : Array Value} {v2 : Value} {x2 : List Value} (h : Blk W g t cs) (k : W.ownsRow b2 e2 s2 v2 n2 x2) (hB : v2.ownBlock = some B) (hne : t ≠ e2) (u : Value) : Blk (W.setCell ⟨B, j, none⟩ u) g t cs := by
  refine h.far (p := ⟨B, j, none⟩) (fun e => ?_) u
  obtain ⟨cur', hh'⟩ := block_of k hB
  have : g = B := e
  subst this
  unfold Blk at h
  rw [h] at hh'
  injection hh' with hh'
  injection hh' with _ q _
  exact hne q
end Go.Proofs.YtlideagcmhlkeaaDoor

/- Rules, eras, links, days and times are compared field by field: what the comparison answers. -/
namespace Go.Proofs.YtlideagcmhlkeaaDoor
open Go.RowKit
set_option linter.unusedVariables false
set_option linter.unusedSimpArgs false

theorem toList_eq_iff (a b : ByteArray) : (a.toList = b.toList) ↔ a = b := by
  constructor
  · intro h
    rw [ByteArray.toList_eq, ByteArray.toList_eq] at h
    exact ByteArray.ext (Array.ext' h)
  · rintro rfl; rfl
set_option maxRecDepth 100000 in
theorem eqi_day (d : Nat) (w : World) (a0 : Int) (a1 : Int) (a2 : Int) (b0 : Int) (b1 : Int) (b2 : Int) : (Op.equalIn (d + 2) 41 (.agg #[.int .i64 a0, .int .i64 a1, .int .i64 a2]) (.agg #[.int .i64 b0, .int .i64 b1, .int .i64 b2])).run Tryd.prog w = .ok (decide (a0 = b0 ∧ a1 = b1 ∧ a2 = b2)) w := by
  have p0 : Tryd.prog.stoodInHeld 41 = false := by kernel_rfl
  rw [run_equalIn_agg w (d + 1) 41 _ _ (by unfold Program.fieldsOf; rw [Tryd.underlying41]) p0]
  unfold Program.fieldsOf
  rw [Tryd.underlying41]
  simp [Op.eqFields, go_sem, Tryd.underlying3, toList_eq_iff]
  by_cases h0 : a0 = b0
  rotate_left
  · simp [h0]
  by_cases h1 : a1 = b1
  rotate_left
  · simp [h1]
  by_cases h2 : a2 = b2
  rotate_left
  · simp [h2]
  simp [h0, h1, h2]
set_option maxRecDepth 100000 in
theorem eqi_clock (d : Nat) (w : World) (a0 : Int) (a1 : Int) (b0 : Int) (b1 : Int) : (Op.equalIn (d + 2) 43 (.agg #[.int .i64 a0, .int .i64 a1]) (.agg #[.int .i64 b0, .int .i64 b1])).run Tryd.prog w = .ok (decide (a0 = b0 ∧ a1 = b1)) w := by
  have p0 : Tryd.prog.stoodInHeld 43 = false := by kernel_rfl
  rw [run_equalIn_agg w (d + 1) 43 _ _ (by unfold Program.fieldsOf; rw [Tryd.underlying43]) p0]
  unfold Program.fieldsOf
  rw [Tryd.underlying43]
  simp [Op.eqFields, go_sem, Tryd.underlying2, Tryd.underlying3, toList_eq_iff]
  by_cases h0 : a0 = b0
  rotate_left
  · simp [h0]
  by_cases h1 : a1 = b1
  rotate_left
  · simp [h1]
  simp [h0, h1]
set_option maxRecDepth 100000 in
theorem eqi_rule (d : Nat) (w : World) (a0 : ByteArray) (a1 : Int) (a2 : Int) (a3 : Int) (a4 : Int) (a5 : Int) (a6 : Int) (a7 : Int) (a8 : Int) (a9 : Int) (a10 : ByteArray) (b0 : ByteArray) (b1 : Int) (b2 : Int) (b3 : Int) (b4 : Int) (b5 : Int) (b6 : Int) (b7 : Int) (b8 : Int) (b9 : Int) (b10 : ByteArray) : (Op.equalIn (d + 4) 83 (.agg #[.string a0, .int .i64 a1, .int .i64 a2, .int .i64 a3, .int .i64 a4, .int .i64 a5, .int .i64 a6, .int .i64 a7, .int .i64 a8, .int .i64 a9, .string a10]) (.agg #[.string b0, .int .i64 b1, .int .i64 b2, .int .i64 b3, .int .i64 b4, .int .i64 b5, .int .i64 b6, .int .i64 b7, .int .i64 b8, .int .i64 b9, .string b10])).run Tryd.prog w = .ok (decide (a0 = b0 ∧ a1 = b1 ∧ a2 = b2 ∧ a3 = b3 ∧ a4 = b4 ∧ a5 = b5 ∧ a6 = b6 ∧ a7 = b7 ∧ a8 = b8 ∧ a9 = b9 ∧ a10 = b10)) w := by
  have p0 : Tryd.prog.stoodInHeld 83 = false := by kernel_rfl
  rw [run_equalIn_agg w (d + 3) 83 _ _ (by unfold Program.fieldsOf; rw [Tryd.underlying83]) p0]
  unfold Program.fieldsOf
  rw [Tryd.underlying83]
  simp [Op.eqFields, go_sem, Tryd.underlying9, Tryd.underlying3, Tryd.underlying2, Tryd.underlying41, Tryd.underlying43, eqi_day, eqi_clock, toList_eq_iff]
  by_cases h0 : a0 = b0
  rotate_left
  · simp [h0]
  by_cases h1 : a1 = b1
  rotate_left
  · simp [h1]
  by_cases h2 : a2 = b2
  rotate_left
  · simp [h2]
  by_cases h3 : a3 = b3
  rotate_left
  · simp [h3]
  by_cases h4 : a4 = b4
  rotate_left
  · simp [h4]
  by_cases h5 : a5 = b5
  rotate_left
  · simp [h5]
  by_cases h6 : a6 = b6
  rotate_left
  · simp [h6]
  by_cases h7 : a7 = b7
  rotate_left
  · simp [h7]
  by_cases h8 : a8 = b8
  rotate_left
  · simp [h8]
  by_cases h9 : a9 = b9
  rotate_left
  · simp [h9]
  by_cases h10 : a10 = b10
  rotate_left
  · simp [h10]
  simp [h0, h1, h2, h3, h4, h5, h6, h7, h8, h9, h10]
theorem neq_rule (w : World) (a0 : ByteArray) (a1 : Int) (a2 : Int) (a3 : Int) (a4 : Int) (a5 : Int) (a6 : Int) (a7 : Int) (a8 : Int) (a9 : Int) (a10 : ByteArray) (b0 : ByteArray) (b1 : Int) (b2 : Int) (b3 : Int) (b4 : Int) (b5 : Int) (b6 : Int) (b7 : Int) (b8 : Int) (b9 : Int) (b10 : ByteArray) : (binOp .neq 83 (.agg #[.string a0, .int .i64 a1, .int .i64 a2, .int .i64 a3, .int .i64 a4, .int .i64 a5, .int .i64 a6, .int .i64 a7, .int .i64 a8, .int .i64 a9, .string a10]) (.agg #[.string b0, .int .i64 b1, .int .i64 b2, .int .i64 b3, .int .i64 b4, .int .i64 b5, .int .i64 b6, .int .i64 b7, .int .i64 b8, .int .i64 b9, .string b10])).run Tryd.prog w = .ok (.bool (!decide (a0 = b0 ∧ a1 = b1 ∧ a2 = b2 ∧ a3 = b3 ∧ a4 = b4 ∧ a5 = b5 ∧ a6 = b6 ∧ a7 = b7 ∧ a8 = b8 ∧ a9 = b9 ∧ a10 = b10))) w := by
  rw [run_neq_struct, eqi_rule 9996]; rfl
set_option maxRecDepth 100000 in
theorem eqi_until (d : Nat) (w : World) (a0 : Bool) (a1 : Int) (a2 : Int) (a3 : Int) (a4 : Int) (a5 : Int) (a6 : Int) (a7 : Int) (b0 : Bool) (b1 : Int) (b2 : Int) (b3 : Int) (b4 : Int) (b5 : Int) (b6 : Int) (b7 : Int) : (Op.equalIn (d + 4) 45 (.agg #[.bool a0, .int .i64 a1, .int .i64 a2, .int .i64 a3, .int .i64 a4, .int .i64 a5, .int .i64 a6, .int .i64 a7]) (.agg #[.bool b0, .int .i64 b1, .int .i64 b2, .int .i64 b3, .int .i64 b4, .int .i64 b5, .int .i64 b6, .int .i64 b7])).run Tryd.prog w = .ok (decide (a0 = b0 ∧ a1 = b1 ∧ a2 = b2 ∧ a3 = b3 ∧ a4 = b4 ∧ a5 = b5 ∧ a6 = b6 ∧ a7 = b7)) w := by
  have p0 : Tryd.prog.stoodInHeld 45 = false := by kernel_rfl
  rw [run_equalIn_agg w (d + 3) 45 _ _ (by unfold Program.fieldsOf; rw [Tryd.underlying45]) p0]
  unfold Program.fieldsOf
  rw [Tryd.underlying45]
  simp [Op.eqFields, go_sem, Tryd.underlying4, Tryd.underlying3, Tryd.underlying2, Tryd.underlying41, Tryd.underlying43, eqi_day, eqi_clock, toList_eq_iff]
  by_cases h0 : a0 = b0
  rotate_left
  · simp [h0]
  by_cases h1 : a1 = b1
  rotate_left
  · simp [h1]
  by_cases h2 : a2 = b2
  rotate_left
  · simp [h2]
  by_cases h3 : a3 = b3
  rotate_left
  · simp [h3]
  by_cases h4 : a4 = b4
  rotate_left
  · simp [h4]
  by_cases h5 : a5 = b5
  rotate_left
  · simp [h5]
  by_cases h6 : a6 = b6
  rotate_left
  · simp [h6]
  by_cases h7 : a7 = b7
  rotate_left
  · simp [h7]
  simp [h0, h1, h2, h3, h4, h5, h6, h7]
set_option maxRecDepth 100000 in
theorem eqi_era (d : Nat) (w : World) (a0 : Int) (a1 : Int) (a2 : Int) (a3 : ByteArray) (a4 : ByteArray) (a5 : Bool) (a6 : Int) (a7 : Int) (a8 : Int) (a9 : Int) (a10 : Int) (a11 : Int) (a12 : Int) (b0 : Int) (b1 : Int) (b2 : Int) (b3 : ByteArray) (b4 : ByteArray) (b5 : Bool) (b6 : Int) (b7 : Int) (b8 : Int) (b9 : Int) (b10 : Int) (b11 : Int) (b12 : Int) : (Op.equalIn (d + 6) 47 (.agg #[.int .i64 a0, .int .i64 a1, .int .i64 a2, .string a3, .string a4, .bool a5, .int .i64 a6, .int .i64 a7, .int .i64 a8, .int .i64 a9, .int .i64 a10, .int .i64 a11, .int .i64 a12]) (.agg #[.int .i64 b0, .int .i64 b1, .int .i64 b2, .string b3, .string b4, .bool b5, .int .i64 b6, .int .i64 b7, .int .i64 b8, .int .i64 b9, .int .i64 b10, .int .i64 b11, .int .i64 b12])).run Tryd.prog w = .ok (decide (a0 = b0 ∧ a1 = b1 ∧ a2 = b2 ∧ a3 = b3 ∧ a4 = b4 ∧ a5 = b5 ∧ a6 = b6 ∧ a7 = b7 ∧ a8 = b8 ∧ a9 = b9 ∧ a10 = b10 ∧ a11 = b11 ∧ a12 = b12)) w := by
  have p0 : Tryd.prog.stoodInHeld 47 = false := by kernel_rfl
  rw [run_equalIn_agg w (d + 5) 47 _ _ (by unfold Program.fieldsOf; rw [Tryd.underlying47]) p0]
  unfold Program.fieldsOf
  rw [Tryd.underlying47]
  simp [Op.eqFields, go_sem, Tryd.underlying9, Tryd.underlying3, Tryd.underlying2, Tryd.underlying45, eqi_until, toList_eq_iff]
  by_cases h0 : a0 = b0
  rotate_left
  · simp [h0]
  by_cases h1 : a1 = b1
  rotate_left
  · simp [h1]
  by_cases h2 : a2 = b2
  rotate_left
  · simp [h2]
  by_cases h3 : a3 = b3
  rotate_left
  · simp [h3]
  by_cases h4 : a4 = b4
  rotate_left
  · simp [h4]
  by_cases h5 : a5 = b5
  rotate_left
  · simp [h5]
  by_cases h6 : a6 = b6
  rotate_left
  · simp [h6]
  by_cases h7 : a7 = b7
  rotate_left
  · simp [h7]
  by_cases h8 : a8 = b8
  rotate_left
  · simp [h8]
  by_cases h9 : a9 = b9
  rotate_left
  · simp [h9]
  by_cases h10 : a10 = b10
  rotate_left
  · simp [h10]
  by_cases h11 : a11 = b11
  rotate_left
  · simp [h11]
  by_cases h12 : a12 = b12
  rotate_left
  · simp [h12]
  simp [h0, h1, h2, h3, h4, h5, h6, h7, h8, h9, h10, h11, h12]
theorem neq_era (w : World) (a0 : Int) (a1 : Int) (a2 : Int) (a3 : ByteArray) (a4 : ByteArray) (a5 : Bool) (a6 : Int) (a7 : Int) (a8 : Int) (a9 : Int) (a10 : Int) (a11 : Int) (a12 : Int) (b0 : Int) (b1 : Int) (b2 : Int) (b3 : ByteArray) (b4 : ByteArray) (b5 : Bool) (b6 : Int) (b7 : Int) (b8 : Int) (b9 : Int) (b10 : Int) (b11 : Int) (b12 : Int) : (binOp .neq 47 (.agg #[.int .i64 a0, .int .i64 a1, .int .i64 a2, .string a3, .string a4, .bool a5, .int .i64 a6, .int .i64 a7, .int .i64 a8, .int .i64 a9, .int .i64 a10, .int .i64 a11, .int .i64 a12]) (.agg #[.int .i64 b0, .int .i64 b1, .int .i64 b2, .string b3, .string b4, .bool b5, .int .i64 b6, .int .i64 b7, .int .i64 b8, .int .i64 b9, .int .i64 b10, .int .i64 b11, .int .i64 b12])).run Tryd.prog w = .ok (.bool (!decide (a0 = b0 ∧ a1 = b1 ∧ a2 = b2 ∧ a3 = b3 ∧ a4 = b4 ∧ a5 = b5 ∧ a6 = b6 ∧ a7 = b7 ∧ a8 = b8 ∧ a9 = b9 ∧ a10 = b10 ∧ a11 = b11 ∧ a12 = b12))) w := by
  rw [run_neq_struct, eqi_era 9994]; rfl
end Go.Proofs.YtlideagcmhlkeaaDoor

/- The zones of two sources are compared (the reference of chapter 14): what zones answers. -/
namespace Go.Proofs.YtlideagcmhlkeaaDoor
open Go.RowKit Go.Lib
set_option linter.unusedVariables false
set_option linter.unusedSimpArgs false

/-- two lists of zones that are the same up to a place -/
def zTo14 (Z Y : List ZV) (n : Nat) : Prop := ∀ i z y, i < n → Z[i]? = some z → Y[i]? = some y → z.name = y.name ∧ z.eras = y.eras
def zSame14 (Z Y : List ZV) : Prop := Z.length = Y.length ∧ zTo14 Z Y Z.length
theorem zTo14.succ {Z Y : List ZV} {k : Nat} {z y : ZV} (h : zTo14 Z Y k) (hz : Z[k]? = some z) (hy : Y[k]? = some y) (hn : z.name = y.name) (he : z.eras = y.eras) : zTo14 Z Y (k + 1) := fun i a b hi ha hb => by
  by_cases hk : i < k
  · exact h i a b hk ha hb
  · obtain rfl : i = k := by omega
    rw [hz] at ha; rw [hy] at hb
    injection ha with ha; injection hb with hb
    subst ha; subst hb
    exact ⟨hn, he⟩
/-- two lists that are the same up to a place -/
def eTo14 {α : Type} (L M : List α) (n : Nat) : Prop := ∀ i : Nat, i < n → L[i]? = M[i]?
theorem eTo14.succ {α : Type} {L M : List α} {k : Nat} (h : eTo14 L M k) (hk : L[k]? = M[k]?) : eTo14 L M (k + 1) := fun i hi => by
  by_cases h2 : i < k
  · exact h i h2
  · obtain rfl : i = k := by omega
    exact hk
theorem eTo14.all {α : Type} {L M : List α} (h : eTo14 L M L.length) (hl : L.length = M.length) : L = M := List.ext_getElem? fun i => by
  by_cases hi : i < L.length
  · exact h i hi
  · rw [List.getElem?_eq_none (by omega), List.getElem?_eq_none (by omega)]
theorem ev_eq (a b : EV) : a = b ↔ (a.off = b.off ∧ a.kind = b.kind ∧ a.save = b.save ∧ a.set = b.set ∧ a.fmt = b.fmt ∧ a.ui = b.ui ∧ a.uy = b.uy ∧ a.um = b.um ∧ a.dk = b.dk ∧ a.dw = b.dw ∧ a.dd = b.dd ∧ a.asec = b.asec ∧ a.ab = b.ab) := by
  cases a; cases b; simp
theorem rv_eq (a b : RV) : a = b ↔ (a.name = b.name ∧ a.frm = b.frm ∧ a.til = b.til ∧ a.month = b.month ∧ a.dk = b.dk ∧ a.dw = b.dw ∧ a.dd = b.dd ∧ a.asec = b.asec ∧ a.abase = b.abase ∧ a.save = b.save ∧ a.letter = b.letter) := by
  cases a; cases b; simp
set_option maxRecDepth 100000 in
theorem eqi_link (d : Nat) (w : World) (a0 a1 b0 b1 : ByteArray) : (Op.equalIn (d + 2) 94 (.agg #[.string a0, .string a1]) (.agg #[.string b0, .string b1])).run Tryd.prog w = .ok (decide (a0 = b0 ∧ a1 = b1)) w := by
  have p0 : Tryd.prog.stoodInHeld 94 = false := by kernel_rfl
  rw [run_equalIn_agg w (d + 1) 94 _ _ (by unfold Program.fieldsOf; rw [Tryd.underlying94]) p0]
  unfold Program.fieldsOf
  rw [Tryd.underlying94]
  simp [Op.eqFields, go_sem, Tryd.underlying9, toList_eq_iff]
  by_cases h0 : a0 = b0
  rotate_left
  · simp [h0]
  by_cases h1 : a1 = b1
  rotate_left
  · simp [h1]
  simp [h0, h1]
theorem neq_link (w : World) (a0 a1 b0 b1 : ByteArray) : (binOp .neq 94 (.agg #[.string a0, .string a1]) (.agg #[.string b0, .string b1])).run Tryd.prog w = .ok (.bool (!decide (a0 = b0 ∧ a1 = b1))) w := by
  rw [run_neq_struct, eqi_link 9998]; rfl
theorem kv_eq (a b : KV) : a = b ↔ (a.target = b.target ∧ a.name = b.name) := by
  cases a; cases b; simp
end Go.Proofs.YtlideagcmhlkeaaDoor

/- Plain mathematics of amounts of time (chapter 4): what a string of bytes is read as, what a number is printed as; no program in sight. -/
namespace Go.Proofs.YtlideagcmhlkeaaDoor.P4

/-- a decimal digit -/
def isD (c : UInt8) : Bool := decide (48 ≤ c.toNat ∧ c.toNat ≤ 57)
/-- the number of a list of digits, on top of a number -/
def valFrom (a : Int) : List UInt8 → Int
  | [] => a
  | c :: l => valFrom (10 * a + ((c.toNat : Int) - 48)) l
def val (l : List UInt8) : Int := valFrom 0 l
/-- a colon and two digits below 60 -/
def pairL : List UInt8 → Option Int
  | a :: b :: _ => if isD a && isD b && decide (a.toNat ≤ 53) then some (10 * ((a.toNat : Int) - 48) + ((b.toNat : Int) - 48)) else none
  | _ => none
/-- the amount of a string without a sign -/
def amount (l : List UInt8) : Option Int :=
  let k := (l.takeWhile isD).length
  if k = 0 ∨ 3 < k ∨ (1 < k ∧ l[0]? = some 48) then none
  else if l.length = k then some (3600 * val (l.take k))
  else if l[k]? ≠ some 58 then none
  else match pairL (l.drop (k + 1)) with
    | none => none
    | some m =>
      if l.length = k + 3 then some (3600 * val (l.take k) + 60 * m)
      else if l[k + 3]? ≠ some 58 then none
      else match pairL (l.drop (k + 4)) with
        | none => none
        | some s => if l.length = k + 6 then some (3600 * val (l.take k) + 60 * m + s) else none
/-- what a string is read as: the amount, and the error's number -/
def parse (l : List UInt8) : Int × Int :=
  let minus := l[0]? == some 45
  match amount (if minus then l.drop 1 else l) with
  | none => (0, 5)
  | some x => if minus && x == 0 then (0, 5) else if 604799 < x then (0, 3) else (if minus then -x else x, 0)

/-- two digits -/
def two (n : Nat) : List UInt8 := [UInt8.ofNat (48 + n / 10), UInt8.ofNat (48 + n % 10)]
/-- the bytes of a string -/
abbrev bl (s : ByteArray) : List UInt8 := s.data.toList
theorem bl_len (s : ByteArray) : (bl s).length = s.size := by simp [bl]
theorem bl_get (s : ByteArray) (k : Nat) (h : k < s.size) : (bl s)[k]? = some (s[k]'h) := by
  have h' : k < (bl s).length := by rw [bl_len]; exact h
  rw [List.getElem?_eq_getElem h']; rfl
theorem pairL_bd {l : List UInt8} {x : Int} (h : pairL l = some x) : 0 ≤ x ∧ x ≤ 59 := by
  unfold pairL at h
  split at h
  · rename_i a b r
    split at h
    · rename_i hc
      simp only [isD, Bool.and_eq_true, decide_eq_true_eq] at hc
      injection h with h
      omega
    · cases h
  · cases h
theorem valFrom_snoc (a : Int) (l : List UInt8) (c : UInt8) : valFrom a (l ++ [c]) = 10 * valFrom a l + ((c.toNat : Int) - 48) := by
  induction l generalizing a with
  | nil => rfl
  | cons x r ih => simp only [List.cons_append, valFrom]; exact ih _
theorem val_snoc (l : List UInt8) (c : UInt8) : val (l ++ [c]) = 10 * val l + ((c.toNat : Int) - 48) := valFrom_snoc 0 l c
theorem val_take (l : List UInt8) (k : Nat) (c : UInt8) (h : l[k]? = some c) : val (l.take (k + 1)) = 10 * val (l.take k) + ((c.toNat : Int) - 48) := by
  rw [List.take_add_one, h]; exact val_snoc _ _
theorem val_bd (l : List UInt8) (k : Nat) (hk : k ≤ 4) (hd : ∀ i, i < k → ∀ c, l[i]? = some c → isD c = true) (hl : k ≤ l.length) : 0 ≤ val (l.take k) ∧ val (l.take k) ≤ 9999 ∧ (k ≤ 3 → val (l.take k) ≤ 999) ∧ (k ≤ 2 → val (l.take k) ≤ 99) ∧ (k ≤ 1 → val (l.take k) ≤ 9) ∧ (k = 0 → val (l.take k) = 0) := by
  induction k with
  | zero => simp [val, valFrom]
  | succ k ih =>
    have h := ih (by omega) (fun i hi => hd i (by omega)) (by omega)
    have hc : l[k]? = some (l[k]'(by omega)) := List.getElem?_eq_getElem (by omega)
    have hdd := hd k (by omega) _ hc
    simp only [isD, decide_eq_true_eq] at hdd
    rw [val_take l k _ hc]
    obtain ⟨h1, h2, h3, h4, h5, h6⟩ := h
    refine ⟨?_, ?_, ?_, ?_, ?_, ?_⟩
    · omega
    · have := h3 (by omega); omega
    · intro q; have := h4 (by omega); omega
    · intro q; have := h5 (by omega); omega
    · intro q; have := h6 (by omega); omega
    · intro q; omega
section
variable {l : List UInt8} {k : Nat} (hk : (l.takeWhile isD).length = k)
include hk
end
def pv (l : List UInt8) : Int := (parse l).1
/-- the first byte is a minus sign -/
def minusB (l : List UInt8) : Bool := l[0]? == some 45
theorem takeWhile_isD (l : List UInt8) (i : Nat) (hi : i < (l.takeWhile isD).length) (c : UInt8) (hc : l[i]? = some c) : isD c = true := by
  induction l generalizing i with
  | nil => simp at hi
  | cons x r ih =>
    by_cases hx : isD x = true
    · cases i with
      | zero => simp at hc; subst hc; exact hx
      | succ i =>
        simp only [List.takeWhile, hx, List.length_cons] at hi
        exact ih i (by omega) (by simpa using hc)
    · simp [List.takeWhile, hx] at hi
theorem amount_bd {l : List UInt8} {x : Int} (h : amount l = some x) : 0 ≤ x ∧ x ≤ 3600000 := by
  unfold amount at h
  have hd := takeWhile_isD l
  have hle : (l.takeWhile isD).length ≤ l.length := (List.takeWhile_prefix isD).length_le
  generalize (l.takeWhile isD).length = k at *
  simp only at h
  by_cases h0 : k = 0 ∨ 3 < k ∨ 1 < k ∧ l[0]? = some 48
  · rw [if_pos h0] at h; cases h
  · rw [if_neg h0] at h
    have hk3 : k ≤ 3 := Nat.le_of_not_lt fun q => h0 (.inr (.inl q))
    obtain ⟨b0, _, b3, _⟩ := val_bd l k (by omega) hd hle
    have b3 := b3 hk3
    by_cases h1 : l.length = k
    · rw [if_pos h1] at h; injection h with h; omega
    · rw [if_neg h1] at h
      by_cases h2 : l[k]? ≠ some 58
      · rw [if_pos h2] at h; cases h
      · rw [if_neg h2] at h
        cases hp : pairL (l.drop (k + 1)) with
        | none => rw [hp] at h; cases h
        | some m =>
          rw [hp] at h
          have hm := pairL_bd hp
          simp only at h
          by_cases h3 : l.length = k + 3
          · rw [if_pos h3] at h; injection h with h; omega
          · rw [if_neg h3] at h
            by_cases h4 : l[k + 3]? ≠ some 58
            · rw [if_pos h4] at h; cases h
            · rw [if_neg h4] at h
              cases hq : pairL (l.drop (k + 4)) with
              | none => rw [hq] at h; cases h
              | some y =>
                rw [hq] at h
                have hy := pairL_bd hq
                simp only at h
                by_cases h5 : l.length = k + 6
                · rw [if_pos h5] at h; injection h with h; omega
                · rw [if_neg h5] at h; cases h
end Go.Proofs.YtlideagcmhlkeaaDoor.P4

/- Plain laws of chapter 4: what is printed is read back; what is read can be printed; what has another form is refused. -/
namespace Go.Proofs.YtlideagcmhlkeaaDoor.P4
set_option linter.unusedVariables false

/-- decimal digits of a small number -/
theorem dec_one (n : Nat) (h : n < 10) : Lib.decDigits n = [UInt8.ofNat (48 + n)] := by rw [Lib.decDigits, dif_pos h]
/-- what is read lies within the limit, or is 0 with an error -/
theorem parse_cases (l : List UInt8) : ((parse l).2 = 0 ∧ -604799 ≤ (parse l).1 ∧ (parse l).1 ≤ 604799) ∨ ((parse l).1 = 0 ∧ ((parse l).2 = 3 ∨ (parse l).2 = 5)) := by
  have hb := fun x h => amount_bd (l := if minusB l then l.drop 1 else l) (x := x) h
  unfold parse
  simp only
  rw [show (l[0]? == some 45) = minusB l from rfl]
  cases hx : amount (if minusB l then l.drop 1 else l) with
  | none => exact .inr ⟨rfl, .inr rfl⟩
  | some x =>
    have := hb x hx
    simp only
    split
    · exact .inr ⟨rfl, .inr rfl⟩
    · split
      · exact .inr ⟨rfl, .inl rfl⟩
      · left; refine ⟨rfl, ?_⟩; simp only; split <;> omega
end Go.Proofs.YtlideagcmhlkeaaDoor.P4

/- Plain mathematics of numeric abbreviations (chapter 20): an offset's text, what a text is read as, and that they are each other's inverses. -/
namespace Go.Proofs.YtlideagcmhlkeaaDoor.P20

/-- the digits of an amount -/
def textN (n : Nat) : List UInt8 := P4.two (n / 3600) ++ (if n % 3600 = 0 then [] else P4.two (n / 60 % 60)) ++ (if n % 60 = 0 then [] else P4.two (n % 60))
def text (x : Int) : List UInt8 := if x ≤ -86400 ∨ 86400 ≤ x then [] else (if x < 0 then 45 else 43) :: textN x.natAbs
/-- the value of one or two bytes; strict: of two alone -/
def chunk (st : Bool) (c : List UInt8) : Option Int := if c.all P4.isD = true ∧ (st = true → c.length = 2) then some (P4.val c) else none
/-- the sum of the parts -/
def pv (st : Bool) : List Int → Int → List UInt8 → Option Int
  | [], acc, _ => some acc
  | u :: us, acc, r => if r = [] then some acc else
    match chunk st (r.take 2) with
    | none => none
    | some v => pv st us (acc + v * u) (r.drop 2)
def units : List Int := [3600, 60, 1]
def sgn (s : List UInt8) (x : Int) : Int := if s[0]? = some 45 then -x else x
def fin (s : List UInt8) : Option Int → Int × Int
  | none => (0, 5)
  | some x => if s ≠ [] ∧ text (sgn s x) = s then (sgn s x, 0) else (0, 5)
theorem fin_some (s : List UInt8) (x : Int) : fin s (some x) = if s ≠ [] ∧ text (sgn s x) = s then (sgn s x, 0) else (0, 5) := rfl
theorem fin_none (s : List UInt8) : fin s none = (0, 5) := rfl
def parseB (st : Bool) (s : List UInt8) : Int × Int := fin s (pv st units 0 (s.drop 1))
def parse (s : List UInt8) : Int × Int := parseB true s

theorem textN_len (n : Nat) : (textN n).length = 2 ∨ (textN n).length = 4 ∨ (textN n).length = 6 := by
  unfold textN
  have h2 : ∀ k, (P4.two k).length = 2 := fun _ => rfl
  by_cases h : n % 3600 = 0
  · rw [if_pos h, if_pos (by omega)]; left; simp [h2]
  · rw [if_neg h]
    by_cases h' : n % 60 = 0
    · rw [if_pos h']; right; left; simp [h2]
    · rw [if_neg h']; right; right; simp [h2]
theorem text_len (x : Int) : (text x).length = 0 ∨ (text x).length = 3 ∨ (text x).length = 5 ∨ (text x).length = 7 := by
  unfold text
  split
  · left; rfl
  · have := textN_len x.natAbs
    simp only [List.length_cons]; omega
theorem pv_eq (us : List Int) : ∀ (acc : Int) (r : List UInt8), pv false us acc r = pv true us acc r ∨ (r.length % 2 = 1 ∧ pv true us acc r = none) := by
  induction us with
  | nil => intro acc r; exact .inl rfl
  | cons u us ih =>
    intro acc r
    match r with
    | [] => exact .inl rfl
    | [a] =>
      right
      refine ⟨rfl, ?_⟩
      unfold pv
      rw [if_neg (by simp)]
      have : chunk true (List.take 2 [a]) = none := by
        unfold chunk
        rw [if_neg]
        rintro ⟨_, h⟩
        exact absurd (h rfl) (by simp)
      rw [this]
    | a :: b :: r =>
      have hc : chunk false (List.take 2 (a :: b :: r)) = chunk true (List.take 2 (a :: b :: r)) := by
        unfold chunk; simp
      unfold pv
      rw [if_neg (by simp), if_neg (by simp), hc]
      cases chunk true (List.take 2 (a :: b :: r)) with
      | none => exact .inl rfl
      | some v =>
        rcases ih (acc + v * u) r with h | ⟨h1, h2⟩
        · exact .inl h
        · exact .inr ⟨by simp only [List.length_cons]; omega, h2⟩
theorem parse_loose (s : List UInt8) : parseB false s = parse s := by
  unfold parse parseB
  rcases pv_eq units 0 (s.drop 1) with h | ⟨h1, h2⟩
  · rw [h]
  · rw [h2]
    cases h : pv false units 0 (s.drop 1) with
    | none => rfl
    | some x =>
      rw [fin_some, fin_none, if_neg]
      rintro ⟨_, e⟩
      have hl := text_len (sgn s x)
      rw [e] at hl
      rw [List.length_drop] at h1
      omega
theorem fin_cases (s : List UInt8) (o : Option Int) : (∃ y, fin s o = (y, 0) ∧ text y = s ∧ s ≠ []) ∨ fin s o = (0, 5) := by
  cases o with
  | none => exact .inr rfl
  | some x =>
    rw [fin_some]
    by_cases h : s ≠ [] ∧ text (sgn s x) = s
    · rw [if_pos h]; exact .inl ⟨_, rfl, h.2, h.1⟩
    · rw [if_neg h]; exact .inr rfl
theorem text_bd {y : Int} (h : text y ≠ []) : -86399 ≤ y ∧ y ≤ 86399 := by
  unfold text at h
  split at h
  · exact absurd rfl h
  · omega
theorem parse_cases (s : List UInt8) : (∃ y, parse s = (y, 0) ∧ text y = s ∧ s ≠ [] ∧ -86399 ≤ y ∧ y ≤ 86399) ∨ parse s = (0, 5) := by
  rcases fin_cases s (pv true units 0 (s.drop 1)) with ⟨y, h, e, hn⟩ | h
  · exact .inl ⟨y, h, e, hn, (text_bd (by rw [e]; exact hn)).1, (text_bd (by rw [e]; exact hn)).2⟩
  · exact .inr h
theorem chunk_two (st : Bool) (k : Nat) (hk : k < 100) (r : List UInt8) : chunk st ((P4.two k ++ r).take 2) = some (k : Int) := by
  have e : (P4.two k ++ r).take 2 = P4.two k := by simp [P4.two]
  rw [e]
  have h1 : (UInt8.ofNat (48 + k / 10)).toNat = 48 + k / 10 := by rw [UInt8.toNat_ofNat']; omega
  have h2 : (UInt8.ofNat (48 + k % 10)).toNat = 48 + k % 10 := by rw [UInt8.toNat_ofNat']; omega
  unfold chunk
  rw [if_pos]
  · simp only [P4.two, P4.val, P4.valFrom, h1, h2]
    congr 1
    omega
  · refine ⟨?_, fun _ => rfl⟩
    simp only [P4.two, List.all_cons, List.all_nil, Bool.and_true, Bool.and_eq_true, P4.isD, decide_eq_true_eq, h1, h2]
    omega
theorem pv_two (st : Bool) (u : Int) (us : List Int) (acc : Int) (k : Nat) (hk : k < 100) (r : List UInt8) : pv st (u :: us) acc (P4.two k ++ r) = pv st us (acc + k * u) r := by
  have e : (P4.two k ++ r).drop 2 = r := by simp [P4.two]
  rw [pv, if_neg (by simp [P4.two]), chunk_two st k hk r, e]
theorem pv_nil (st : Bool) (us : List Int) (acc : Int) : pv st us acc [] = some acc := by
  cases us with
  | nil => rfl
  | cons u us => rw [pv, if_pos rfl]
theorem pv_h (st : Bool) (h : Nat) (hh : h < 100) : pv st units 0 (P4.two h) = some (3600 * h) := by
  have := pv_two st 3600 [60, 1] 0 h hh []
  rw [List.append_nil] at this
  rw [units, this, pv_nil]; congr 1; omega
theorem pv_hm (st : Bool) (h m : Nat) (hh : h < 100) (hm : m < 100) : pv st units 0 (P4.two h ++ P4.two m) = some (3600 * h + 60 * m) := by
  have := pv_two st 60 [1] (0 + h * 3600) m hm []
  rw [List.append_nil] at this
  rw [units, pv_two st _ _ _ h hh, this, pv_nil]; congr 1; omega
theorem pv_hms (st : Bool) (h m s : Nat) (hh : h < 100) (hm : m < 100) (hs : s < 100) : pv st units 0 (P4.two h ++ (P4.two m ++ P4.two s)) = some (3600 * h + 60 * m + s) := by
  have := pv_two st 1 [] (0 + h * 3600 + m * 60) s hs []
  rw [List.append_nil] at this
  rw [units, pv_two st _ _ _ h hh, pv_two st _ _ _ m hm, this, pv_nil]; congr 1; omega
theorem textN_pv (n : Nat) (h : n ≤ 86399) : pv true units 0 (textN n) = some (n : Int) := by
  unfold textN
  by_cases h1 : n % 3600 = 0
  · rw [if_pos h1, if_pos (by omega), List.append_nil, List.append_nil, pv_h true _ (by omega)]; exact congrArg some (by omega)
  · rw [if_neg h1]
    by_cases h2 : n % 60 = 0
    · rw [if_pos h2, List.append_nil, pv_hm true _ _ (by omega) (by omega)]; exact congrArg some (by omega)
    · rw [if_neg h2, List.append_assoc, pv_hms true _ _ _ (by omega) (by omega) (by omega)]; exact congrArg some (by omega)
theorem text_in {x : Int} (h0 : -86399 ≤ x) (h1 : x ≤ 86399) : text x = (if x < 0 then 45 else 43) :: textN x.natAbs := if_neg (by omega)
theorem text_out {x : Int} (h : x ≤ -86400 ∨ 86400 ≤ x) : text x = [] := if_pos h
theorem parse_text {x : Int} (h0 : -86399 ≤ x) (h1 : x ≤ 86399) : parse (text x) = (x, 0) := by
  have ht := text_in h0 h1
  unfold parse parseB
  rw [show (text x).drop 1 = textN x.natAbs by rw [ht]; rfl, textN_pv _ (by omega)]
  have hs : sgn (text x) (x.natAbs : Int) = x := by
    unfold sgn
    rw [ht]
    by_cases hx : x < 0
    · rw [if_pos hx, if_pos (by rfl)]; omega
    · rw [if_neg hx, if_neg (by simp)]; omega
  rw [fin_some, hs, if_pos ⟨by rw [ht]; simp, rfl⟩]
theorem text_ne {x : Int} (h0 : -86399 ≤ x) (h1 : x ≤ 86399) : text x ≠ [] := by rw [text_in h0 h1]; simp
end Go.Proofs.YtlideagcmhlkeaaDoor.P20

/- Plain mathematics of what stands for %z in an era (chapter 20). -/
namespace Go.Proofs.YtlideagcmhlkeaaDoor.P20
open Go.Proofs.YtlideagcmhlkeaaDoor

/-- the one save other than 0 of a list, carried on from x -/
def otherFrom (x : Int) : List Int → Int × Bool
  | [] => (x, decide (x ≠ 0))
  | r :: l => if r = 0 then otherFrom x l else if x ≠ 0 ∧ r ≠ x then (0, false) else otherFrom r l
def other (l : List Int) : Int × Bool := otherFrom 0 l
def one (t : List UInt8) : List UInt8 × Int := if t = [] then ([], 3) else (t, 0)
def both (s t : List UInt8) : List UInt8 × Int := if s = [] ∨ t = [] then ([], 3) else (s ++ 47 :: t, 0)
def expansion (kind off save : Int) (l : List Int) : List UInt8 × Int :=
  if kind = 0 then one (text off)
  else if kind = 1 then one (text (off + save))
  else if kind = 2 then
    if (other l).2 then both (text off) (text (off + (other l).1))
    else if l.any (fun r => decide (r ≠ 0)) then ([], 14) else one (text off)
  else ([], 2)
end Go.Proofs.YtlideagcmhlkeaaDoor.P20

/- Plain facts for the walk of numeric.Text (chapter 20): the parts of an amount, how many are written. -/
namespace Go.Proofs.YtlideagcmhlkeaaDoor.P20
set_option linter.unusedVariables false
open Go.Proofs.YtlideagcmhlkeaaDoor

def PL (n : Nat) : List Nat := [n / 3600, n / 60 % 60, n % 60]
def KN (n : Nat) : Nat := if n % 60 ≠ 0 then 3 else if n / 60 % 60 ≠ 0 then 2 else 1
def flat (n k : Nat) : List UInt8 := ((PL n).take k).flatMap P4.two
theorem KN_bd (n : Nat) : 1 ≤ KN n ∧ KN n ≤ 3 := by unfold KN; split <;> (try split) <;> omega
theorem flat_step (n k p : Nat) (h : (PL n)[k]? = some p) : flat n (k + 1) = flat n k ++ P4.two p := by
  unfold flat
  rw [List.take_add_one, h]
  simp
theorem flat_len (n k : Nat) (h : k ≤ 3) : (flat n k).length = 2 * k := by
  match k, h with
  | 0, _ => rfl
  | 1, _ => rfl
  | 2, _ => rfl
  | 3, _ => rfl
theorem flat_all (n : Nat) : flat n (KN n) = textN n := by
  unfold KN textN
  by_cases h : n % 60 = 0
  · rw [if_neg (by omega), if_pos h]
    by_cases h' : n / 60 % 60 = 0
    · rw [if_neg (by omega), if_pos (by omega)]; simp [flat, PL]
    · rw [if_pos h', if_neg (by omega)]; simp [flat, PL]
  · rw [if_pos h, if_neg h, if_neg (by omega)]; simp [flat, PL]
theorem PL_at (n k : Nat) (hn : n ≤ 86399) (hk : k < 3) : ∃ p, (PL n)[k]? = some p ∧ p < 100 := by
  match k, hk with
  | 0, _ => exact ⟨_, rfl, by omega⟩
  | 1, _ => exact ⟨_, rfl, by omega⟩
  | 2, _ => exact ⟨_, rfl, by omega⟩
def arrP (n : Nat) : Array Value := ((PL n).map fun p : Nat => Value.int .i64 (p : Int)).toArray
theorem arrP_eq (n : Nat) : arrP n = #[.int .i64 ((n : Int) / 3600), .int .i64 ((n : Int) / 60 % 60), .int .i64 ((n : Int) % 60)] := rfl
theorem arrP_at (n k p : Nat) (h : (PL n)[k]? = some p) : (arrP n)[k]? = some (.int .i64 (p : Int)) := by
  unfold arrP
  rw [List.getElem?_toArray, List.getElem?_map, h]; rfl
theorem KN_last (n : Nat) (h : KN n ≠ 1) : ∃ p, (PL n)[KN n - 1]? = some p ∧ p ≠ 0 := by
  unfold KN at h ⊢
  by_cases h1 : n % 60 = 0
  · rw [if_neg (by omega)] at h ⊢
    by_cases h2 : n / 60 % 60 = 0
    · rw [if_neg (by omega)] at h; exact absurd rfl h
    · rw [if_pos h2]; exact ⟨_, rfl, h2⟩
  · rw [if_pos h1]; exact ⟨_, rfl, h1⟩
theorem KN_zero (n k : Nat) (h : KN n < k) (h3 : k ≤ 3) : (PL n)[k - 1]? = some 0 := by
  unfold KN at h
  by_cases h1 : n % 60 = 0
  · rw [if_neg (by omega)] at h
    by_cases h2 : n / 60 % 60 = 0
    · rw [if_neg (by omega)] at h
      rcases (by omega : k = 2 ∨ k = 3) with rfl | rfl
      · exact congrArg some h2
      · exact congrArg some h1
    · rw [if_pos h2] at h
      obtain rfl : k = 3 := by omega
      exact congrArg some h1
  · rw [if_pos h1] at h; omega
theorem two_bvs (p : Nat) (hp : p < 100) : bvs (P4.two p) = [.int .u8 (48 + (p : Int) / 10), .int .u8 (48 + (p : Int) % 10)] := by
  have h1 : (UInt8.ofNat (48 + p / 10)).toNat = 48 + p / 10 := by rw [UInt8.toNat_ofNat']; omega
  have h2 : (UInt8.ofNat (48 + p % 10)).toNat = 48 + p % 10 := by rw [UInt8.toNat_ofNat']; omega
  simp only [bvs, P4.two, List.map_cons, List.map_nil, h1, h2]
  rfl
end Go.Proofs.YtlideagcmhlkeaaDoor.P20

/- The walk of numeric.Text (chapter 20). -/
namespace Go.Proofs.YtlideagcmhlkeaaDoor
open Go.RowKit
set_option linter.unusedVariables false

theorem infoU8 : (Tryd.prog.info? 5).map (fun i => (i.zero, i.size, i.bytes)) = some (some (.int .u8 0), 1, 1) := by kernel_rfl
set_option maxRecDepth 100000 in
set_option maxHeartbeats 4000000 in
theorem ntext_in (sg : UInt8) (x : Int) (n : Nat) (w : World) (hn : n ≤ 86399) (hx : (x = n ∧ sg = 43) ∨ (x < 0 ∧ x = -(n : Int) ∧ sg = 45)) :
    Calls Tryd.prog 24 #[.int .i64 x] w fun e w' => e = .returned (.string (str (sg :: P20.textN n))) ∧ Below w.heap.size w w' := by
  have hni : (n : Int) ≤ 86399 := by omega
  have hbd := P20.KN_bd n
  have hcv := fun W B cap l hl h => conv_own (P := Tryd.prog) Tryd.underlying24 Tryd.underlying5 Tryd.underlying9 W B (1 + 2 * P20.KN n) cap l hl h
  have HCV := Lib.hid hcv
  clear hcv
  go_enter Tryd.func24, Tryd.ntmps24
  go_wp2_with fail
  go_step3
  go_upto_if 16 with (fail)
  go_cut [0, 3] (fun s0 s3 wx => s0 = .int .i64 (n : Int) ∧ s3 = .int .u8 (sg.toNat : Int) ∧ w = wx)
  case first =>
    rcases hx with ⟨rfl, rfl⟩ | ⟨hneg, rfl, rfl⟩
    · go_wp2_with fail
      go_meet
      exact ⟨rfl, rfl, rfl⟩
    · go_wp2_with fail
      go_meet
      exact ⟨by simp, rfl, rfl⟩
  case rest =>
    obtain ⟨rfl, rfl, rfl⟩ := hcut
    clear hx
    have hP := Blk.new w 114 (P20.arrP n)
    rw [P20.arrP_eq] at hP
    have hb0 : Below w.heap.size w (w.alloc (.cells #[.int .i64 ((n : Int) / 3600), .int .i64 ((n : Int) / 60 % 60), .int .i64 ((n : Int) % 60)] 114)) := (Below.refl _ _).alloc (Nat.le_refl _) _
    go_wp2_with fail
    go_step3
    go_wp2_with fail
    go_loop [5] (fun s5 => ∃ k : Nat, s5 = .int .i64 (k : Int) ∧ P20.KN n ≤ k ∧ k ≤ 3) (fun s5 => (intOf s5).toNat)
    case atStart => exact ⟨3, rfl, hbd.2, Nat.le_refl _⟩
    case round =>
      obtain ⟨k, rfl, hk0, hk3⟩ := hrel
      by_cases hkK : k = P20.KN n
      · subst hkK
        by_cases h1 : P20.KN n = 1
        · have hle : (P20.KN n : Int) ≤ 1 := by omega
          clear h1
          go_wp2_with fail
          clear hk0 hk3
          have hO := own_new 1 1 (Blk.newAt (w.alloc (.cells #[.int .i64 ((n : Int) / 3600), .int .i64 ((n : Int) / 60 % 60), .int .i64 ((n : Int) % 60)] 114)) (w.heap.size + 1) (by simp) 5 #[.int .u8 (sg.toNat : Int)]) (Nat.le_refl (w.heap.size + 1)) rfl (by decide)
          have hP1 := hP.alloc (.cells #[.int .u8 (sg.toNat : Int)] 5)
          have hb1 := hb0.alloc hb0.size (.cells #[.int .u8 (sg.toNat : Int)] 5)
          have hKi0 : (0 : Int) ≤ (P20.KN n : Int) := by omega
          have hKi3 : (P20.KN n : Int) ≤ 3 := by omega
          have HK := Lib.hid (P20.flat_all n)
          have HPL := fun k hk => P20.PL_at n k hn hk
          have HPL' := Lib.hid HPL
          clear HPL hP hb0
          generalize P20.KN n = K at hKi0 hKi3 HK HCV ⊢
          go_wp2_with fail
          go_loopw [6, 42] (fun v i wr => ∃ k : Nat, k ≤ K ∧ i = .int .i64 k ∧ wr.ownsRow (w.heap.size + 1) 5 1 v (1 + 2 * k) (bvs (sg :: P20.flat n k)) ∧ Blk wr w.heap.size 114 (P20.arrP n) ∧ Below w.heap.size w wr) (fun _ i _ => K - (intOf i).toNat)
          case atStart => exact ⟨0, Nat.zero_le _, rfl, hO, hP1, hb1⟩
          case round =>
            clear hO hP1 hb1
            obtain ⟨k, hkK, rfl, hO, hP, hb⟩ := hrel
            by_cases hlt : k < K
            · have hlti : (k : Int) < (K : Int) := by omega
              obtain ⟨p, hp, hp100⟩ := HPL'.out k (by omega)
              have c0 : wr.cell? ⟨w.heap.size, k, none⟩ = some (.int .i64 (p : Int)) := (hP.cell k).trans (P20.arrP_at n k p hp)
              have HS := Lib.hid (P20.flat_step n k p hp)
              have hpi : (p : Int) ≤ 99 := by omega
              have hNB : Hid (Blk (wr.alloc (.cells #[.int .u8 (48 + (p : Int) / 10), .int .u8 (48 + (p : Int) % 10)] 5)) wr.heap.size 5 #[.int .u8 (48 + (p : Int) / 10), .int .u8 (48 + (p : Int) % 10)]) := Lib.hid (Blk.new _ _ _)
              have hTB := Lib.hid (P20.two_bvs p hp100)
              have HO := Lib.hid (hO.alloc (.cells #[.int .u8 (48 + (p : Int) / 10), .int .u8 (48 + (p : Int) % 10)] 5))
              have HP := Lib.hid (hP.alloc (.cells #[.int .u8 (48 + (p : Int) / 10), .int .u8 (48 + (p : Int) % 10)] 5))
              have HB := Lib.hid (hb.alloc hb.size (.cells #[.int .u8 (48 + (p : Int) / 10), .int .u8 (48 + (p : Int) % 10)] 5))
              have HZ := Lib.hid (show w.heap.size + 1 ≤ (wr.alloc (.cells #[.int .u8 (48 + (p : Int) / 10), .int .u8 (48 + (p : Int) % 10)] 5)).heap.size from Nat.succ_le_of_lt HP.out.lt)
              have hkb : 1 + 2 * k ≤ 7 := by omega
              have HKB := Lib.hid hkb
              obtain ⟨i0, hi, hz0, hz1, hz2⟩ := info_parts infoU8
              clear hO hP hb hp hp100 hkb
              go_wp2_with (at_builtin; refine wpList_append_own _ rfl _ _ 24 rfl (w.heap.size + 1) 5 i0 (.int .u8 0) 1 1 Tryd.underlying24 hi hz0 hz1 hz2 rfl (by decide) _ _ _ rfl HO.out ⟨wr.heap.size, 0, none⟩ 2 2 [.int .u8 (48 + (p : Int) / 10), .int .u8 (48 + (p : Int) % 10)] rfl rfl (blk_cells hNB.out) (by simp [Value.oneCell']) (by have := HKB.out; simp only [maxLen]; omega) (by have := HKB.out; omega) HZ.out ?_)
              intro v1 wa hown hgr hne
              have hb2 := own_grown HB.out HO.out hgr HB.out.size (Nat.le_succ _)
              have hP2 := blk_grown HP.out HO.out hgr (Nat.lt_succ_self _)
              have hO2 : wa.ownsRow (w.heap.size + 1) 5 1 v1 (1 + 2 * (k + 1)) (bvs (sg :: P20.flat n (k + 1))) := by
                rw [HS.out, ← List.cons_append, bvs_append, hTB.out]; exact hown
              clear hown hgr hne HO HP HB HZ hNB hTB HS HKB
              go_wp2_with fail
              go_roundw
              case rel => exact ⟨k + 1, by omega, by go_num, hO2, hP2, hb2⟩
              case measure => simp [intOf]; omega
            · obtain rfl : k = K := by omega
              obtain ⟨B, cap, rfl, hB0, hB1, hcap, hcs⟩ := own_form hO (by omega)
              have hr := HCV.out wr B cap (sg :: P20.flat n k) (by rw [List.length_cons, P20.flat_len n k (by omega)]; omega) hcs
              rw [HK.out] at hr
              clear hcs hO hP
              go_wp2_with fail
              try rw [Exit.noGoto_ret]
              go_ret
              exact ⟨rfl, hb⟩
        · have hgt : (1 : Int) < (P20.KN n : Int) := by omega
          obtain ⟨p, hp, hpz⟩ := P20.KN_last n h1
          have c0 : (w.alloc (.cells #[.int .i64 ((n : Int) / 3600), .int .i64 ((n : Int) / 60 % 60), .int .i64 ((n : Int) % 60)] 114)).cell? ⟨w.heap.size, P20.KN n - 1, none⟩ = some (.int .i64 (p : Int)) := (hP.cell _).trans (P20.arrP_at n _ p hp)
          have hpq : ((p : Int) == 0) = false := by rw [beq_eq_false_iff_ne]; omega
          clear h1 hp hpz
          go_wp2_with fail
          clear hk0 hk3
          have hO := own_new 1 1 (Blk.newAt (w.alloc (.cells #[.int .i64 ((n : Int) / 3600), .int .i64 ((n : Int) / 60 % 60), .int .i64 ((n : Int) % 60)] 114)) (w.heap.size + 1) (by simp) 5 #[.int .u8 (sg.toNat : Int)]) (Nat.le_refl (w.heap.size + 1)) rfl (by decide)
          have hP1 := hP.alloc (.cells #[.int .u8 (sg.toNat : Int)] 5)
          have hb1 := hb0.alloc hb0.size (.cells #[.int .u8 (sg.toNat : Int)] 5)
          have hKi0 : (0 : Int) ≤ (P20.KN n : Int) := by omega
          have hKi3 : (P20.KN n : Int) ≤ 3 := by omega
          have HK := Lib.hid (P20.flat_all n)
          have HPL := fun k hk => P20.PL_at n k hn hk
          have HPL' := Lib.hid HPL
          clear HPL hP hb0
          generalize P20.KN n = K at hKi0 hKi3 HK HCV ⊢
          go_wp2_with fail
          go_loopw [6, 42] (fun v i wr => ∃ k : Nat, k ≤ K ∧ i = .int .i64 k ∧ wr.ownsRow (w.heap.size + 1) 5 1 v (1 + 2 * k) (bvs (sg :: P20.flat n k)) ∧ Blk wr w.heap.size 114 (P20.arrP n) ∧ Below w.heap.size w wr) (fun _ i _ => K - (intOf i).toNat)
          case atStart => exact ⟨0, Nat.zero_le _, rfl, hO, hP1, hb1⟩
          case round =>
            clear hO hP1 hb1
            obtain ⟨k, hkK, rfl, hO, hP, hb⟩ := hrel
            by_cases hlt : k < K
            · have hlti : (k : Int) < (K : Int) := by omega
              obtain ⟨p, hp, hp100⟩ := HPL'.out k (by omega)
              have c0 : wr.cell? ⟨w.heap.size, k, none⟩ = some (.int .i64 (p : Int)) := (hP.cell k).trans (P20.arrP_at n k p hp)
              have HS := Lib.hid (P20.flat_step n k p hp)
              have hpi : (p : Int) ≤ 99 := by omega
              have hNB : Hid (Blk (wr.alloc (.cells #[.int .u8 (48 + (p : Int) / 10), .int .u8 (48 + (p : Int) % 10)] 5)) wr.heap.size 5 #[.int .u8 (48 + (p : Int) / 10), .int .u8 (48 + (p : Int) % 10)]) := Lib.hid (Blk.new _ _ _)
              have hTB := Lib.hid (P20.two_bvs p hp100)
              have HO := Lib.hid (hO.alloc (.cells #[.int .u8 (48 + (p : Int) / 10), .int .u8 (48 + (p : Int) % 10)] 5))
              have HP := Lib.hid (hP.alloc (.cells #[.int .u8 (48 + (p : Int) / 10), .int .u8 (48 + (p : Int) % 10)] 5))
              have HB := Lib.hid (hb.alloc hb.size (.cells #[.int .u8 (48 + (p : Int) / 10), .int .u8 (48 + (p : Int) % 10)] 5))
              have HZ := Lib.hid (show w.heap.size + 1 ≤ (wr.alloc (.cells #[.int .u8 (48 + (p : Int) / 10), .int .u8 (48 + (p : Int) % 10)] 5)).heap.size from Nat.succ_le_of_lt HP.out.lt)
              have hkb : 1 + 2 * k ≤ 7 := by omega
              have HKB := Lib.hid hkb
              obtain ⟨i0, hi, hz0, hz1, hz2⟩ := info_parts infoU8
              clear hO hP hb hp hp100 hkb
              go_wp2_with (at_builtin; refine wpList_append_own _ rfl _ _ 24 rfl (w.heap.size + 1) 5 i0 (.int .u8 0) 1 1 Tryd.underlying24 hi hz0 hz1 hz2 rfl (by decide) _ _ _ rfl HO.out ⟨wr.heap.size, 0, none⟩ 2 2 [.int .u8 (48 + (p : Int) / 10), .int .u8 (48 + (p : Int) % 10)] rfl rfl (blk_cells hNB.out) (by simp [Value.oneCell']) (by have := HKB.out; simp only [maxLen]; omega) (by have := HKB.out; omega) HZ.out ?_)
              intro v1 wa hown hgr hne
              have hb2 := own_grown HB.out HO.out hgr HB.out.size (Nat.le_succ _)
              have hP2 := blk_grown HP.out HO.out hgr (Nat.lt_succ_self _)
              have hO2 : wa.ownsRow (w.heap.size + 1) 5 1 v1 (1 + 2 * (k + 1)) (bvs (sg :: P20.flat n (k + 1))) := by
                rw [HS.out, ← List.cons_append, bvs_append, hTB.out]; exact hown
              clear hown hgr hne HO HP HB HZ hNB hTB HS HKB
              go_wp2_with fail
              go_roundw
              case rel => exact ⟨k + 1, by omega, by go_num, hO2, hP2, hb2⟩
              case measure => simp [intOf]; omega
            · obtain rfl : k = K := by omega
              obtain ⟨B, cap, rfl, hB0, hB1, hcap, hcs⟩ := own_form hO (by omega)
              have hr := HCV.out wr B cap (sg :: P20.flat n k) (by rw [List.length_cons, P20.flat_len n k (by omega)]; omega) hcs
              rw [HK.out] at hr
              clear hcs hO hP
              go_wp2_with fail
              try rw [Exit.noGoto_ret]
              go_ret
              exact ⟨rfl, hb⟩
      · have hgt : (1 : Int) < (k : Int) := by omega
        have hp := P20.KN_zero n k (by omega) hk3
        have c0 : (w.alloc (.cells #[.int .i64 ((n : Int) / 3600), .int .i64 ((n : Int) / 60 % 60), .int .i64 ((n : Int) % 60)] 114)).cell? ⟨w.heap.size, k - 1, none⟩ = some (.int .i64 0) := (hP.cell _).trans (P20.arrP_at n _ 0 hp)
        clear hp
        go_wp2_with fail
        go_round
        case rel => exact ⟨k - 1, by rw [show ((k - 1 : Nat) : Int) = (k : Int) - 1 by omega], by omega, by omega⟩
        case measure => simp [intOf]; omega
end Go.Proofs.YtlideagcmhlkeaaDoor

/- Plain facts for the walks of numeric.Parse and of the reference's Parse (chapter 20). -/
namespace Go.Proofs.YtlideagcmhlkeaaDoor.P20
open Go.Proofs.YtlideagcmhlkeaaDoor
set_option linter.unusedVariables false

theorem bl_extract (s : ByteArray) (i j : Nat) : P4.bl (s.extract i j) = ((P4.bl s).take j).drop i := by
  simp [P4.bl, ByteArray.data_extract, Array.toList_extract, List.drop_take]
theorem chunk_bl (s : ByteArray) (i j : Nat) (hj : j = i + 2 ∨ (j = s.size ∧ s.size ≤ i + 2)) : P4.bl (s.extract i j) = ((P4.bl s).drop i).take 2 := by
  rw [bl_extract, List.drop_take]
  rcases hj with rfl | ⟨rfl, h⟩
  · rw [Nat.add_sub_cancel_left]
  · have hl := P4.bl_len s
    rw [List.take_of_length_le (by rw [List.length_drop]; omega), List.take_of_length_le (by rw [List.length_drop]; omega)]
/-- strconv.ParseUint of one or two bytes: a number, or what is answered at no byte at all -/
theorem uint8_cases (c : List UInt8) (h : c.length = 1 ∨ c.length = 2) : (∃ u : Nat, Lib.parseUintB 8 c = .ok u ∧ chunk false c = some (u : Int) ∧ u ≤ 99) ∨ (Lib.parseUintB 8 c = Lib.parseUintB 8 [] ∧ chunk false c = none) := by
  match c, h with
  | [a], _ =>
    by_cases ha : 48 ≤ a.toNat ∧ a.toNat ≤ 57
    · refine .inl ⟨a.toNat - 48, ?_, ?_, by omega⟩
      · rw [Lib.parseUintB, if_neg (by simp), Lib.parseUintM, if_pos ha, if_neg (by omega), if_neg (by omega), Lib.parseUintM]
        exact congrArg _ (by omega)
      · unfold chunk
        rw [if_pos ⟨by simp [P4.isD]; exact ha, fun q => by cases q⟩]
        simp only [P4.val, P4.valFrom]
        exact congrArg some (by omega)
    · refine .inr ⟨?_, ?_⟩
      · rw [Lib.parseUintB, if_neg (by simp), Lib.parseUintM, if_neg ha]; rfl
      · unfold chunk
        exact if_neg fun q => ha (by simpa [P4.isD] using q.1)
  | [a, b], _ =>
    by_cases ha : 48 ≤ a.toNat ∧ a.toNat ≤ 57
    · by_cases hb : 48 ≤ b.toNat ∧ b.toNat ≤ 57
      · refine .inl ⟨(a.toNat - 48) * 10 + (b.toNat - 48), ?_, ?_, by omega⟩
        · rw [Lib.parseUintB, if_neg (by simp), Lib.parseUintM, if_pos ha, if_neg (by omega), if_neg (by omega), Lib.parseUintM, if_pos hb, if_neg (by omega), if_neg (by omega), Lib.parseUintM]
          exact congrArg _ (by omega)
        · unfold chunk
          rw [if_pos ⟨by simp [P4.isD]; omega, fun q => by cases q⟩]
          simp only [P4.val, P4.valFrom]
          exact congrArg some (by omega)
      · refine .inr ⟨?_, ?_⟩
        · rw [Lib.parseUintB, if_neg (by simp), Lib.parseUintM, if_pos ha, if_neg (by omega), if_neg (by omega), Lib.parseUintM, if_neg hb]; rfl
        · unfold chunk
          exact if_neg fun q => hb (by have := q.1; simp [P4.isD] at this; omega)
    · refine .inr ⟨?_, ?_⟩
      · rw [Lib.parseUintB, if_neg (by simp), Lib.parseUintM, if_neg ha]; rfl
      · unfold chunk
        exact if_neg fun q => ha (by have := q.1; simp [P4.isD] at this; omega)
/-- a round: one part more -/
theorem pv_go (st : Bool) (u : Int) (us : List Int) (acc : Int) (r : List UInt8) (h : r ≠ []) (v : Int) (hv : chunk st (r.take 2) = some v) : pv st (u :: us) acc r = pv st us (acc + v * u) (r.drop 2) := by
  rw [pv, if_neg h, hv]
theorem pv_stop (st : Bool) (u : Int) (us : List Int) (acc : Int) (r : List UInt8) (h : r ≠ []) (hv : chunk st (r.take 2) = none) : pv st (u :: us) acc r = none := by
  rw [pv, if_neg h, hv]
theorem fin_empty (o : Option Int) : fin [] o = (0, 5) := by
  cases o with
  | none => rfl
  | some x => rw [fin_some, if_neg (by simp)]
theorem fin_eq {s : List UInt8} {acc y : Int} (hs : s ≠ []) (hy : sgn s acc = y) (h : text y = s) : fin s (some acc) = (y, 0) := by
  rw [fin_some, hy, if_pos ⟨hs, h⟩]
theorem fin_ne {s : List UInt8} {acc y : Int} (hy : sgn s acc = y) (h : ¬ text y = s) : fin s (some acc) = (0, 5) := by
  rw [fin_some, hy, if_neg fun q => h q.2]
theorem sgn_minus {s : List UInt8} (acc : Int) (h : Lib.hasPrefix s [45] = true) : sgn s acc = -acc := by
  unfold sgn
  rw [if_pos]
  cases s with
  | nil => simp [Lib.hasPrefix] at h
  | cons a s => simp [Lib.hasPrefix] at h; simp [← h]
theorem sgn_plus {s : List UInt8} (acc : Int) (h : Lib.hasPrefix s [45] = false) : sgn s acc = acc := by
  unfold sgn
  rw [if_neg]
  cases s with
  | nil => simp
  | cons a s =>
    intro q
    simp at q
    subst q
    simp [Lib.hasPrefix] at h
end Go.Proofs.YtlideagcmhlkeaaDoor.P20

/- The walks of the reference's Decimal and Two (chapter 4), for seats that reach these two alone. -/
namespace Go.Proofs.YtlideagcmhlkeaaDoor
open Go.RowKit
set_option linter.unusedVariables false

end Go.Proofs.YtlideagcmhlkeaaDoor
