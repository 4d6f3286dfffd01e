/- Rows of the call's own: made, opened, kept; bytes in a row as a list; their string. No function of the program. -/
import Derived.Test.YtmhciidliicheaaDoorBlk
import Derived.Laws.AppendOwn
import Derived.Laws.OwnMore
import Derived.Laws.BytesString
import Derived.Below
import Derived.WalkKit
namespace Go.Proofs.YtmhciidliicheaaDoor
open Go.RowKit
set_option linter.unusedVariables false

theorem add_zero_off (B j : Nat) : (⟨B, 0, none⟩ : Addr).add j = ⟨B, j, none⟩ := by unfold Addr.add; split <;> simp_all
theorem blk_cells {w : World} {B : Nat} {e : TypeId} {cs : Array Value} (h : Blk w B e cs) : ∀ (j : Nat) u, cs.toList[j]? = some u → w.cell? ((⟨B, 0, none⟩ : Addr).add j) = some u := by
  intro j u hu
  rw [add_zero_off, h.cell j, ← Array.getElem?_toList]
  exact hu
theorem own_new {w : World} {base B : Nat} {e : TypeId} {cs : Array Value} (size n : Nat) (h : Blk w B e cs) (hb : base ≤ B) (hn : cs.size = n * size) (hm : n ≤ maxLen) : w.ownsRow base e size (.slice (some ⟨B, 0, none⟩) n n) n cs.toList :=
  ⟨by rw [Array.length_toList, hn], .inr ⟨B, n, cs, rfl, hb, h, Nat.le_refl _, hm, hn, by rw [List.take_of_length_le (by rw [Array.length_toList, hn]; exact Nat.le_refl _)]⟩⟩
theorem own_form {w : World} {base n size : Nat} {e : TypeId} {v : Value} {xs : List Value} (h : w.ownsRow base e size v n xs) (hn : 0 < n) :
    ∃ B cap, v = .slice (some ⟨B, 0, none⟩) n cap ∧ base ≤ B ∧ B < w.heap.size ∧ n ≤ cap ∧ ∀ k u, xs[k]? = some u → w.cell? ⟨B, k, none⟩ = some u := by
  have hc := fun g hg => h.cells (g := g) hg
  have hl := h.lt
  rcases h.2 with ⟨_, q⟩ | ⟨g, cap, cur, rfl, hg, hh, hcap, _⟩
  · omega
  · refine ⟨g, cap, rfl, hg, (hl g rfl).2, hcap, fun k u hu => ?_⟩
    have := hc g rfl k u hu
    rwa [add_zero_off] at this
theorem own_below {w w' : World} {base n size : Nat} {e : TypeId} {v : Value} {xs : List Value} (h : w.ownsRow base e size v n xs) (hb : Below w.heap.size w w') : w'.ownsRow base e size v n xs := by
  refine ⟨h.1, ?_⟩
  rcases h.2 with q | ⟨g, cap, cur, hv, hg, hh, q⟩
  · exact .inl q
  · refine .inr ⟨g, cap, cur, hv, hg, ?_, q⟩
    rw [hb.block g (h.lt g (by rw [hv]; rfl)).2]; exact hh
theorem own_drewN {w : World} {base n size : Nat} {e : TypeId} {v : Value} {xs : List Value} (h : w.ownsRow base e size v n xs) (k : Nat) : (w.drewN k).ownsRow base e size v n xs := h
/-- an append to a row of the call's own: what lay below still stands -/
theorem own_grown {a w w' : World} {base B n size : Nat} {e : TypeId} {v : Value} {xs : List Value} (hb : Below B a w) (h : w.ownsRow base e size v n xs) (hg : w.grownBy w' v.ownBlock) (hB : B ≤ w.heap.size) (hBb : B ≤ base) : Below B a w' :=
  hb.grown hg hB fun k hk => Nat.le_trans hBb (h.lt k hk).1
theorem blk_grown {w w' : World} {base g n size : Nat} {e t : TypeId} {v : Value} {xs : List Value} {cs : Array Value} (hB : Blk w g t cs) (h : w.ownsRow base e size v n xs) (hg : w.grownBy w' v.ownBlock) (hlt : g < base) : Blk w' g t cs :=
  (hg.block g hB.lt fun q => by have := (h.lt g q.symm).1; omega).trans hB
/-- bytes as values -/
def bvs (l : List UInt8) : List Value := l.map fun c => .int .u8 (c.toNat : Int)
theorem bvs_len (l : List UInt8) : (bvs l).length = l.length := List.length_map _
theorem bvs_append (a b : List UInt8) : bvs (a ++ b) = bvs a ++ bvs b := List.map_append
theorem bvs_one (l : List UInt8) : ∀ u ∈ bvs l, u.oneCell' = true := by
  intro u hu
  obtain ⟨c, _, rfl⟩ := List.mem_map.1 hu
  rfl
theorem push_all (l : List UInt8) : ∀ r : ByteArray, (l.map fun c => (c.toNat : Int)).foldl (fun r n => r.push (UInt8.ofNat n.toNat)) r = r ++ str l := by
  induction l with
  | nil => intro r; rw [show str [] = ByteArray.empty from rfl]; exact ByteArray.append_empty.symm
  | cons c l ih =>
    intro r
    rw [List.map_cons, List.foldl_cons, ih]
    apply ByteArray.ext
    simp [str, ByteArray.data_append]
theorem bytes_str {P : Program} (W : World) (B n cap : Nat) (l : List UInt8) (hn : n = l.length) (h : ∀ k u, (bvs l)[k]? = some u → W.cell? ⟨B, k, none⟩ = some u) :
    (Conv.bytesToString (.slice (some ⟨B, 0, none⟩) n cap)).run P W = .ok (.string (str l)) W := by
  have hr : (loadCells ⟨B, 0, none⟩ n).run P W = .ok ((l.map fun c => (c.toNat : Int)).map (Value.int .u8)).toArray W := by
    have q := run_loadCells_list (P := P) (w := W) ⟨B, 0, none⟩ (bvs l) (fun j u hu => by rw [add_zero_off]; exact h j u hu)
    rw [bvs_len, ← hn] at q
    rw [q, List.map_map]; rfl
  rw [run_bytesToString W _ _ _ _ hr, push_all]
  rw [ByteArray.empty_append]
theorem conv_own {P : Program} {T S E : TypeId} (hT : P.underlying T = some (.slice E)) (hE : P.underlying E = some (.int .u8)) (hS : P.underlying S = some .string) (W : World) (B n cap : Nat) (l : List UInt8) (hn : n = l.length)
    (h : ∀ k u, (bvs l)[k]? = some u → W.cell? ⟨B, k, none⟩ = some u) : (convert T S (.slice (some ⟨B, 0, none⟩) n cap)).run P W = .ok (.string (str l)) W := by
  rw [run_convert_bytes_string W T S E _ _ _ hT hE hS]
  exact bytes_str W B n cap l hn h
end Go.Proofs.YtmhciidliicheaaDoor
