/- Texts of one proof, one behind the other: Mad17c; Mad17d; Mad23a; Plain30b; Turn29c; Work29; Few29. -/
import Derived.Test.YtlideagcmhlkeaaDoorR6
import Derived.ArgAppend
import Derived.Laws.OwnMore
import Derived.BigRegion
import Derived.BigQuiet
import Derived.IntWalk

/- The walk of a pair of rules of a draft (chapter 17). -/
namespace Go.Proofs.YtlideagcmhlkeaaDoor
open Go.RowKit Go.Lib
set_option linter.unusedVariables false

/-- what a step of a pair's regions keeps -/
structure Gr (W W' : World) : Prop where
  far : ∀ g t cs, t ≠ 83 → Blk W g t cs → Blk W' g t cs
  own : ∀ g, (∃ a b c d e f h i j k l, Blk W g 83 #[a, b, c, d, e, f, h, i, j, k, l]) → ∃ a b c d e f h i j k l, Blk W' g 83 #[a, b, c, d, e, f, h, i, j, k, l]
theorem Gr.refl (W : World) : Gr W W := ⟨fun _ _ _ _ h => h, fun _ h => h⟩
theorem Gr.below {W W' : World} (h : Below W.heap.size W W') : Gr W W' :=
  ⟨fun g t cs _ hb => hb.below h hb.lt, fun g ⟨a, b, c, d, e, f, h', i, j, k, l, hb⟩ => ⟨a, b, c, d, e, f, h', i, j, k, l, hb.below h hb.lt⟩⟩
theorem Gr.alloc (W : World) (ob : Obj) : Gr W (W.alloc ob) := Gr.below ((Below.refl _ W).alloc (Nat.le_refl _) ob)
theorem Gr.set_ {W : World} {g : Nat} {a b c d e f h i j k l : Value} (hb : Blk W g 83 #[a, b, c, d, e, f, h, i, j, k, l]) (n : Nat) (u : Value) : Gr W (W.setCell ⟨g, n, none⟩ u) := by
  refine ⟨fun g' t cs ht h' => h'.far (fun q => ht ?_) u, fun g' ⟨a', b', c', d', e', f', h', i', j', k', l', hb'⟩ => ?_⟩
  · have q' : g' = g := q
    subst q'
    unfold Blk at hb h'
    rw [hb] at h'
    injection h' with h'
    injection h' with _ h' _
    exact h'.symm
  · by_cases q : g' = g
    · subst q
      have := hb.set_ n u
      unfold Blk at this
      match n with
      | 0 | 1 | 2 | 3 | 4 | 5 | 6 | 7 | 8 | 9 | 10 => exact ⟨_, _, _, _, _, _, _, _, _, _, _, this⟩
      | n + 11 =>
        rw [Array.setIfInBounds, dif_neg (by simp)] at this
        exact ⟨_, _, _, _, _, _, _, _, _, _, _, this⟩
    · exact ⟨a', b', c', d', e', f', h', i', j', k', l', hb'.far q u⟩
theorem Gr.trans {A B C : World} (h : Gr A B) (h' : Gr B C) : Gr A C := ⟨fun g t cs ht hb => h'.far g t cs ht (h.far g t cs ht hb), fun g hb => h'.own g (h.own g hb)⟩

end Go.Proofs.YtlideagcmhlkeaaDoor

/- The walk of Draft.Made (chapter 17): the rules that a draft makes. -/
namespace Go.Proofs.YtlideagcmhlkeaaDoor
open Go.RowKit Go.Lib
set_option linter.unusedVariables false

end Go.Proofs.YtlideagcmhlkeaaDoor

/- Drafts of layer 23 as values, and what the source that one makes is good for. No function of the program. -/
namespace Go.Proofs.YtlideagcmhlkeaaDoor
open Go.RowKit
set_option linter.unusedVariables false

/-- a draft by its cells -/
structure D23 where
  sA : Option Addr
  sc : Nat
  sets : List (Option Addr × Nat × List Int)
  zA : Option Addr
  zc : Nat
  zones : List (Option Addr × Nat × List E23)
  lA : Option Addr
  lc : Nat
  links : List Int
def setCells (s : Option Addr × Nat × List Int) : List Value := [.slice s.1 s.2.2.length s.2.1]
def zoneCells (s : Option Addr × Nat × List E23) : List Value := [.slice s.1 s.2.2.length s.2.1]
structure D23In (w : World) (d : D23) : Prop where
  sets : CellsIn 1 setCells w d.sA d.sets
  zones : CellsIn 1 zoneCells w d.zA d.zones
  links : CellsIn 1 u8Cell w d.lA d.links
  draws : ∀ s ∈ d.sets, Dr w s.1 s.2.2
  eras : ∀ z ∈ d.zones, CellsIn 8 E23.cells w z.1 z.2.2 ∧ (∀ x ∈ z.2.2, x.ok) ∧ z.2.2.length ≤ maxLen ∧ z.2.2.length ≤ z.2.1
  nums : ∀ n ∈ d.links, 0 ≤ n ∧ n ≤ 255
  lens : d.sets.length ≤ maxLen ∧ d.zones.length ≤ maxLen ∧ d.links.length ≤ maxLen
  caps : d.zones.length ≤ d.zc ∧ d.links.length ≤ d.lc
theorem D23In.below {w w' : World} {d : D23} (h : D23In w d) (hb : Below w.heap.size w w') : D23In w' d :=
  ⟨h.sets.below hb, h.zones.below hb, h.links.below hb, fun s hs => (h.draws s hs).below hb, fun z hz => ⟨(h.eras z hz).1.below hb, (h.eras z hz).2⟩, h.nums, h.lens, h.caps⟩
/-- what the source of a draft is good for -/
structure Good23 (t : SV) : Prop where
  zones : 1 ≤ t.zones.length ∧ t.zones.length ≤ 3
  lens : t.rules.length ≤ 15 ∧ t.links.length ≤ 4 ∧ t.shifts = []
  eras : ∀ z ∈ t.zones, 1 ≤ z.eras.length ∧ z.eras.length ≤ 4
  era : ∀ z ∈ t.zones, ∀ e ∈ z.eras, GoodE t.rules e
  saves : SvOk t.rules
end Go.Proofs.YtlideagcmhlkeaaDoor

/- The plain law of ExpandBack (chapter 30): expanded, expanded twice, contracted again. No function of the program beyond the relations. -/
namespace Go.Proofs.YtlideagcmhlkeaaDoor
open Go.RowKit
set_option linter.unusedVariables false
set_option linter.unusedSectionVars false

theorem mapS_get {G : EV → EV} {s : SV} {i : Nat} {y : ZV} (h : (mapS G s).zones[i]? = some y) : ∃ z, s.zones[i]? = some z ∧ y = mapE G z := by
  have h' : (s.zones.map (mapE G))[i]? = some y := h
  rw [List.getElem?_map] at h'
  obtain ⟨z, hz, rfl⟩ := Option.map_eq_some_iff.1 h'
  exact ⟨z, hz, rfl⟩
theorem mapS_same {a t : SV} (G : EV → EV) (h : sSame14 a t) : sSame14 (mapS G a) (mapS G t) := by
  refine ⟨h.rules, h.links, h.shifts, by show (a.zones.map _).length = (t.zones.map _).length; rw [List.length_map, List.length_map]; exact h.zones.1, fun i x y hi hx hy => ?_⟩
  obtain ⟨z, hz, rfl⟩ := mapS_get hx
  obtain ⟨z', hz', rfl⟩ := mapS_get hy
  obtain ⟨h1, h2⟩ := h.zones.2 i z z' (List.getElem?_eq_some_iff.1 hz).1 hz hz'
  exact ⟨h1, by show z.eras.map G = z'.eras.map G; rw [h2]⟩
theorem mapS_congr {t : SV} {G H : EV → EV} (h : ∀ z ∈ t.zones, ∀ e ∈ z.eras, G e = H e) : sSame14 (mapS G t) (mapS H t) := by
  refine ⟨rfl, rfl, rfl, by show (t.zones.map _).length = (t.zones.map _).length; rw [List.length_map, List.length_map], fun i x y hi hx hy => ?_⟩
  obtain ⟨z, hz, rfl⟩ := mapS_get hx
  obtain ⟨z', hz', rfl⟩ := mapS_get hy
  rw [hz] at hz'
  injection hz' with hz'
  subst hz'
  exact ⟨rfl, List.map_congr_left fun e he => h z (List.mem_of_getElem? hz) e he⟩
theorem mapS_id {t : SV} {G : EV → EV} (h : ∀ z ∈ t.zones, ∀ e ∈ z.eras, G e = e) : sSame14 (mapS G t) t := by
  refine (mapS_congr (H := fun e => e) h).trans ⟨rfl, rfl, rfl, by show (t.zones.map _).length = t.zones.length; simp, fun i x y hi hx hy => ?_⟩
  obtain ⟨z, hz, rfl⟩ := mapS_get hx
  rw [hz] at hy
  injection hy with hy
  subst hy
  exact ⟨rfl, by show z.eras.map _ = z.eras; simp⟩
/-- the eras of a source that is the same as a changed one -/
theorem eras_of_map {a t : SV} {G : EV → EV} (h : sSame14 a (mapS G t)) {z : ZV} (hz : z ∈ a.zones) {e : EV} (he : e ∈ z.eras) : ∃ y ∈ t.zones, ∃ x ∈ y.eras, e = G x := by
  obtain ⟨y, hy, _, h2⟩ := same_eras h z hz
  obtain ⟨x, hx, rfl⟩ := List.mem_map.1 (show y ∈ t.zones.map (mapE G) from hy)
  rw [h2] at he
  obtain ⟨u, hu, rfl⟩ := List.mem_map.1 (show e ∈ x.eras.map G from he)
  exact ⟨x, hx, u, hu, rfl⟩
theorem errs_ok {F : EV → ByteArray × Int} {Z : List ZV} (h : ∀ z ∈ Z, ∀ e ∈ z.eras, (F e).2 = 0) : ErrIs F Z 0 :=
  ErrIs.ok (i := Z.length) (fun a b z e hz he _ => h z (List.mem_of_getElem? hz) e (List.mem_of_getElem? he)) (Nat.le_refl _)
theorem Res30.ok {F : EV → ByteArray × Int} {s t : SV} {n : Int} (h : Res30 F s t n) (hk : ∀ z ∈ s.zones, ∀ e ∈ z.eras, (F e).2 = 0) : n = 0 ∧ sSame14 t (mapS (fmtE F) s) := by
  have e := h.err.uniq (errs_ok hk)
  exact ⟨e, h.yes e⟩
theorem few_map {a t : SV} {G : EV → EV} (hf : Few30 t) (h : sSame14 a (mapS G t)) (hg : ∀ z ∈ t.zones, ∀ e ∈ z.eras, (G e).off = e.off ∧ (G e).save = e.save ∧ (G e).fmt.size ≤ 1100000) : Few30 a := by
  have hl := same_lens h
  have hzl : (mapS G t).zones.length = t.zones.length := by show (t.zones.map _).length = _; simp
  have hq := hf.lens
  refine ⟨⟨by rw [hl.1]; exact hq.1, by rw [hl.2.1, hzl]; exact hq.2.1, by rw [hl.2.2.1]; exact hq.2.2.1, by rw [hl.2.2.2]; exact hq.2.2.2⟩, fun z hz => ?_, fun z hz e he => ?_, by rw [h.rules]; exact hf.saves⟩
  · obtain ⟨y, hy, _, h2⟩ := same_eras h z hz
    obtain ⟨x, hx, rfl⟩ := List.mem_map.1 (show y ∈ t.zones.map (mapE G) from hy)
    rw [h2]
    show (x.eras.map G).length ≤ 1000
    rw [List.length_map]
    exact hf.eras x hx
  · obtain ⟨y, hy, x, hx, rfl⟩ := eras_of_map h hz he
    obtain ⟨g1, g2, g3⟩ := hg y hy x hx
    rw [g1, g2]
    exact ⟨(hf.nums y hy x hx).1, (hf.nums y hy x hx).2.1, g3⟩
theorem few_same {a t : SV} (hf : Few30 t) (h : sSame14 a t) : Few30 a :=
  few_map hf (h.trans (mapS_id (G := fun e => e) fun _ _ _ _ => rfl).symm) fun z hz e he => ⟨rfl, rfl, (hf.nums z hz e he).2.2⟩
section
variable {t a : SV} (hg : Good23 t) (ha : sSame14 a (mapS (fmtE (exF t.rules)) t))
include hg ha
end
end Go.Proofs.YtlideagcmhlkeaaDoor

/- The walk of turn.Eras (chapter 29). -/
namespace Go.Proofs.YtlideagcmhlkeaaDoor
open Go.RowKit Go.Shelf Go.Proofs
set_option linter.unusedVariables false
set_option linter.unusedSimpArgs false
attribute [local go_sem] Oper.semAt_some

theorem kept_gs {W W' : World} {row : Option Nat} (hg : W.grownBy W' row) (hr : ∀ r, row = some r → ∃ o : Obj, W.heap[r]? = some o ∧ o.isCells = false) : GS W W' := by
  have key : ∀ (g : Nat) (e : TypeId) (cur : Array Value), W.heap[g]? = some (.cells cur e (0, 0)) → W'.heap[g]? = some (.cells cur e (0, 0)) := fun g e cur h => (hg.block g (Array.getElem?_eq_some_iff.1 h).1 fun q => by
    obtain ⟨o, h1, h2⟩ := hr g q.symm
    rw [h] at h1
    injection h1 with h1
    subst h1
    cases h2).trans h
  exact ⟨fun g e cur _ h => key g e cur h, fun g ⟨a, b, c, d, h⟩ => ⟨a, b, c, d, key g _ _ h⟩⟩
theorem kept_blk {W W' : World} {row : Option Nat} {g : Nat} {t : TypeId} {cs : Array Value} (h : Blk W g t cs) (hg : W.grownBy W' row) (hr : ∀ r, row = some r → ∃ o : Obj, W.heap[r]? = some o ∧ o.isCells = false) : Blk W' g t cs :=
  (hg.block g h.lt fun q => by
    obtain ⟨o, h1, h2⟩ := hr g q.symm
    unfold Blk at h
    rw [h] at h1
    injection h1 with h1
    subst h1
    cases h2).trans h
set_option maxRecDepth 100000 in
set_option maxHeartbeats 4000000 in
theorem erasf_any (s : SV) (w : World) :
    Calls Tryd.prog 58 #[.agg #[.slice s.rA s.rules.length s.rc, .slice s.zA s.zones.length s.zc, .slice s.kA s.links.length s.kc, .slice s.hA s.shifts.length s.hc]] w fun e w' => e = .returned (.func (.func 94) #[] #[.pointer (some ⟨w.heap.size, 0, none⟩)]) ∧
      w' = w.alloc (.cells #[.slice s.rA s.rules.length s.rc, .slice s.zA s.zones.length s.zc, .slice s.kA s.links.length s.kc, .slice s.hA s.shifts.length s.hc] 32) := by
  go_enter Tryd.func58, Tryd.ntmps58
  go_wp2_with fail
  go_ret
  exact ⟨rfl, rfl⟩
/-- where the walk of Eras stands -/
structure It (w W : World) (set : ByteArray) (c : SV) (Y : List ZV) (g5 base : Nat) : Prop where
  set : Blk W (w.heap.size + 1) 9 #[.string set]
  res : Blk W (w.heap.size + 2) 32 #[.slice none 0 0, .slice none 0 0, .slice none 0 0, .slice none 0 0]
  out : Blk W g5 32 #[.slice c.rA c.rules.length c.rc, .slice c.zA c.zones.length c.zc, .slice c.kA c.links.length c.kc, .slice c.hA c.shifts.length c.hc]
  cp : CopyOf W base { c with zones := Y } { c with zones := Y }
  like : likeZ c.zones Y
  sz : ∀ y ∈ Y, ∀ e ∈ y.eras, e.fmt.size ≤ 1100000
  bel : Below w.heap.size w W
  le : w.heap.size + 3 ≤ base ∧ w.heap.size + 3 ≤ g5
theorem It.below {w W W' : World} {set : ByteArray} {c : SV} {Y : List ZV} {g5 base : Nat} (h : It w W set c Y g5 base) (hb : Below W.heap.size W W') : It w W' set c Y g5 base :=
  ⟨h.set.below hb h.set.lt, h.res.below hb h.res.lt, h.out.below hb h.out.lt, h.cp.below hb, h.like, h.sz, h.bel.trans (hb.mono h.bel.size), h.le⟩
theorem It.kept {w W W' : World} {set : ByteArray} {c : SV} {Y : List ZV} {g5 base B : Nat} {row : Option Nat} (h : It w W set c Y g5 base) (hB : w.heap.size ≤ B) (hg : W.grownBy W' row) (hr : ∀ r, row = some r → B ≤ r ∧ ∃ o : Obj, W.heap[r]? = some o ∧ o.isCells = false) : It w W' set c Y g5 base :=
  ⟨kept_blk h.set hg fun r e => (hr r e).2, kept_blk h.res hg fun r e => (hr r e).2, kept_blk h.out hg fun r e => (hr r e).2, h.cp.gs (kept_gs hg fun r e => (hr r e).2), h.like, h.sz, ownFrom_below (β := Unit) (n₀ := w.heap.size) (w₀ := w) (Nat.le_refl _) hB () W W' row h.bel hg hr, h.le⟩
theorem turnE_size (set : ByteArray) (e : EV) : (turnE set e).fmt.size = e.fmt.size := by
  unfold turnE
  split
  · exact turnB_size _
  · rfl
theorem mem_modify {α : Type} {L : List α} {k : Nat} {f : α → α} {x : α} (h : x ∈ L.modify k f) : ∃ y ∈ L, x = y ∨ x = f y := by
  obtain ⟨i, hi⟩ := List.mem_iff_getElem?.1 h
  rw [List.getElem?_modify] at hi
  cases hq : L[i]? with
  | none => rw [hq] at hi; cases hi
  | some y =>
    rw [hq] at hi
    injection hi with hi
    refine ⟨y, List.mem_of_getElem? hq, ?_⟩
    subst hi
    by_cases h : k = i
    · exact .inr (if_pos h)
    · exact .inl (if_neg h)
theorem sz_chg {set : ByteArray} {Y : List ZV} (h : ∀ y ∈ Y, ∀ e ∈ y.eras, e.fmt.size ≤ 1100000) (p : Nat × Nat) : ∀ y ∈ chgP (turnE set) Y p, ∀ e ∈ y.eras, e.fmt.size ≤ 1100000 := fun y hy e he => by
  obtain ⟨z, hz, rfl | rfl⟩ := mem_modify hy
  · exact h _ hz e he
  · obtain ⟨x, hx, rfl | rfl⟩ := mem_modify (show e ∈ z.eras.modify p.2 (turnE set) from he)
    · exact h z hz _ hx
    · rw [turnE_size]
      exact h z hz x hx
/-- an era at a place -/
theorem It.at_ {w W : World} {set : ByteArray} {c : SV} {Y : List ZV} {g5 base : Nat} (h : It w W set c Y g5 base) {p : Nat × Nat} (hp : PlOk c.zones p) :
    ∃ (y : ZV) (e : EV) (g : Nat), Y[p.1]? = some y ∧ y.eras[p.2]? = some e ∧ y.A = some ⟨g, 0, none⟩ ∧ zb c.zones p.1 = g ∧ base ≤ g ∧ RowOf W base 47 13 EV.cells (some ⟨g, 0, none⟩) y.c y.eras := by
  obtain ⟨z, e0, hz, he0⟩ := hp
  obtain ⟨y, hy⟩ : ∃ y, Y[p.1]? = some y := ⟨_, List.getElem?_eq_getElem (by rw [h.like.1]; exact (List.getElem?_eq_some_iff.1 hz).1)⟩
  obtain ⟨hA, hc, hn, hl⟩ := h.like.2 p.1 z y hz hy
  have hk := (List.getElem?_eq_some_iff.1 he0).1
  obtain ⟨e, he⟩ : ∃ e, y.eras[p.2]? = some e := ⟨_, List.getElem?_eq_getElem (by omega)⟩
  obtain ⟨g, hgA, hgb, _⟩ := h.cp.eraAddr (show ({ c with zones := Y } : SV).zones[p.1]? = some y from hy) (by omega)
  have hrow := h.cp.zones.2.eras p.1 y hy
  rw [hgA] at hrow
  exact ⟨y, e, g, hy, he, hgA, zb_at hz (hA ▸ hgA), hgb, hrow⟩
/-- the era there is turned, with a new FORMAT -/
theorem It.set_ {w W : World} {set : ByteArray} {c : SV} {Y : List ZV} {g5 base : Nat} (h : It w W set c Y g5 base) {p : Nat × Nat} {y : ZV} {e : EV} {g : Nat} (hy : Y[p.1]? = some y) (he : y.eras[p.2]? = some e) (hA : y.A = some ⟨g, 0, none⟩) (hk : e.kind = 2) (hs : e.set = set) :
    It w (W.setCell ⟨g, p.2 * 13 + 4, none⟩ (.string (turnB e.fmt))) set c (chgP (turnE set) Y p) g5 base := by
  have hrow := h.cp.zones.2.eras p.1 y hy
  rw [hA] at hrow
  have hO : (Value.slice (some ⟨g, 0, none⟩) y.eras.length y.c).ownBlock = some g := rfl
  have hge := (World.ownsRow.lt hrow g rfl).1
  have hl := h.le
  refine ⟨blk_set_other h.set hrow hO (by decide) _, blk_set_other h.res hrow hO (by decide) _, blk_set_other h.out hrow hO (by decide) _, ?_, h.like.chg _ _, sz_chg h.sz _, h.bel.setCell (by show w.heap.size ≤ g; omega) _, h.le⟩
  obtain ⟨i, k⟩ := p
  rw [chgP_set hy he]
  exact h.cp.setCell (t := { c with zones := Y }) hy hA he (.string (turnB e.fmt)) (by decide) (by rw [turnE_yes hk hs]; rfl)
theorem set_self {α : Type} {L : List α} {k : Nat} {x : α} (h : L[k]? = some x) : L.set k x = L := List.ext_getElem? fun i => by
  by_cases hi : k = i
  · subst hi
    rw [List.getElem?_set_self (List.getElem?_eq_some_iff.1 h).1, h]
  · rw [List.getElem?_set_ne hi]
theorem It.skip {w W : World} {set : ByteArray} {c : SV} {Y : List ZV} {g5 base : Nat} (h : It w W set c Y g5 base) {p : Nat × Nat} {y : ZV} {e : EV} (hy : Y[p.1]? = some y) (he : y.eras[p.2]? = some e) (hn : ¬ (e.kind = 2 ∧ e.set = set)) :
    It w W set c (chgP (turnE set) Y p) g5 base := by
  obtain ⟨i, k⟩ := p
  have e1 : chgP (turnE set) Y (i, k) = Y := by
    rw [chgP_set hy he, turnE_no hn, set_self he]
    exact set_self hy
  rw [e1]
  exact h
theorem ko_below {W W' : World} (h : Below W.heap.size W W') : KeepsOthers W W' := ⟨h.size, fun k o hk _ => (h.block k (Array.getElem?_eq_some_iff.1 hk).1).trans hk⟩
theorem KE.set_row {α : Type} {W : World} {base m : Nat} {f : α → List Value} {g c : Nat} {L : List α} (h : RowOf W base 47 m f (some ⟨g, 0, none⟩) c L) (n : Nat) (u : Value) : KE W (W.setCell ⟨g, n, none⟩ u) := fun g' e cur he hb =>
  (Below.heap_setCell W _ u g' (fun q => he (by
    obtain ⟨cur', hc⟩ := block_of h (show (Value.slice (some ⟨g, 0, none⟩) L.length c).ownBlock = some g from rfl)
    have q' : g' = g := q
    subst q'
    rw [hb] at hc
    injection hc with hc
    injection hc with _ hc _))).trans hb
theorem CopyOf.low {W : World} {b b' : Nat} {s t : SV} (h : CopyOf W b s t) (hb : b' ≤ b) : CopyOf W b' s t :=
  ⟨⟨h.rules.1, h.rules.2.low hb⟩, ⟨h.zones.1.low hb, ⟨h.zones.2.same, fun i y hy => (h.zones.2.eras i y hy).low hb, h.zones.2.apart⟩⟩, ⟨h.links.1, h.links.2.low hb⟩, ⟨h.shifts.1, h.shifts.2.low hb⟩⟩
set_option maxRecDepth 100000 in
set_option maxHeartbeats 8000000 in
theorem teras_any (s : SV) (set : ByteArray) (w : World) (hS : SrcIn w s) (hf : Few30 s) (hv : Vars21 w) :
    Calls Tryd.prog 31 #[.agg #[.slice s.rA s.rules.length s.rc, .slice s.zA s.zones.length s.zc, .slice s.kA s.links.length s.kc, .slice s.hA s.shifts.length s.hc], .string set] w fun x w' => ∃ t : SV, x = .returned (.agg #[.slice t.rA t.rules.length t.rc, .slice t.zA t.zones.length t.zc, .slice t.kA t.links.length t.kc, .slice t.hA t.shifts.length t.hc]) ∧ CopyOf w' w.heap.size t t ∧ sSame14 t (mapS (turnE set) s) ∧ Below w.heap.size w w' := by
  have hx1 := (Blk.newAt (w.alloc (.cells #[.slice s.rA s.rules.length s.rc, .slice s.zA s.zones.length s.zc, .slice s.kA s.links.length s.kc, .slice s.hA s.shifts.length s.hc] 32)) (w.heap.size + 1) (by simp) 9 #[.string set]).alloc (.cells #[.slice none 0 0, .slice none 0 0, .slice none 0 0, .slice none 0 0] 32)
  have hx2 := Blk.newAt ((w.alloc (.cells #[.slice s.rA s.rules.length s.rc, .slice s.zA s.zones.length s.zc, .slice s.kA s.links.length s.kc, .slice s.hA s.shifts.length s.hc] 32)).alloc (.cells #[.string set] 9)) (w.heap.size + 2) (by simp) 32 #[.slice none 0 0, .slice none 0 0, .slice none 0 0, .slice none 0 0]
  have hx0 := ((Blk.new w 32 #[.slice s.rA s.rules.length s.rc, .slice s.zA s.zones.length s.zc, .slice s.kA s.links.length s.kc, .slice s.hA s.shifts.length s.hc]).alloc (.cells #[.string set] 9)).alloc (.cells #[.slice none 0 0, .slice none 0 0, .slice none 0 0, .slice none 0 0] 32)
  have hb3 := (((Below.refl w.heap.size w).alloc (Nat.le_refl _) (.cells #[.slice s.rA s.rules.length s.rc, .slice s.zA s.zones.length s.zc, .slice s.kA s.links.length s.kc, .slice s.hA s.shifts.length s.hc] 32)).alloc (by simp) (.cells #[.string set] 9)).alloc (by simp; omega) (.cells #[.slice none 0 0, .slice none 0 0, .slice none 0 0, .slice none 0 0] 32)
  have HX1 := Lib.hid hx1; have HX2 := Lib.hid hx2; have HB3 := Lib.hid hb3; have HV := Lib.hid hv; have HFW := Lib.hid hf
  have cP := Lib.hid (pcopy_any s (((w.alloc (.cells #[.slice s.rA s.rules.length s.rc, .slice s.zA s.zones.length s.zc, .slice s.kA s.links.length s.kc, .slice s.hA s.shifts.length s.hc] 32)).alloc (.cells #[.string set] 9)).alloc (.cells #[.slice none 0 0, .slice none 0 0, .slice none 0 0, .slice none 0 0] 32)) (hS.below hb3) hf)
  have c0 := (hx0.cell 0).trans rfl; have c1 := (hx0.cell 1).trans rfl; have c2 := (hx0.cell 2).trans rfl; have c3 := (hx0.cell 3).trans rfl
  clear hS hf hv hx0 hx1 hx2 hb3
  refine (callsIn_wide (n := 6)).1 ?_
  refine callsIn_of_wp_marks Tryd.func31 rfl trivial ?_ rfl
  simp only [Tryd.ntmps31, List.size_toArray, List.length_cons, List.length_nil, Nat.reduceAdd, Nat.reduceSub, Array.replicate_succ, Array.replicate_zero, List.push_toArray, List.append_toArray, List.nil_append, List.cons_append]
  gi_wp2
  refine ⟨trivial, ?_⟩
  refine (callsIn_wide.2 cP.out).mono ?_
  rintro e W4 ⟨c, rfl, hC, hc⟩
  have al := (Below.refl W4.heap.size W4).alloc (Nat.le_refl _) (.cells #[.slice c.rA c.rules.length c.rc, .slice c.zA c.zones.length c.zc, .slice c.kA c.links.length c.kc, .slice c.hA c.shifts.length c.hc] 32)
  have HC5 := Lib.hid ((hC.self).below al)
  have HCS := Lib.hid hC.same
  have hbw := HB3.out.trans (hc.mono HB3.out.size)
  have HO5 := Lib.hid (Blk.new W4 32 #[.slice c.rA c.rules.length c.rc, .slice c.zA c.zones.length c.zc, .slice c.kA c.links.length c.kc, .slice c.hA c.shifts.length c.hc])
  have HIT := Lib.hid (show It w (W4.alloc (.cells #[.slice c.rA c.rules.length c.rc, .slice c.zA c.zones.length c.zc, .slice c.kA c.links.length c.kc, .slice c.hA c.shifts.length c.hc] 32)) set c c.zones W4.heap.size (w.heap.size + 5) from
    ⟨(HX1.out.below hc HX1.out.lt).alloc _, (HX2.out.below hc HX2.out.lt).alloc _, HO5.out, (by have q := HC5.out; simp at q; exact q), likeZ.refl _, (fun y hy e he => by obtain ⟨x, hx, _, h2⟩ := same_eras HCS.out y hy; rw [h2] at he; exact (HFW.out.nums x hx e he).2.2), hbw.trans (al.mono hbw.size), by omega, by have := hc.size; simp at this; omega⟩)
  have y0 := (HO5.out.cell 0).trans rfl; have y1 := (HO5.out.cell 1).trans rfl; have y2 := (HO5.out.cell 2).trans rfl; have y3 := (HO5.out.cell 3).trans rfl
  clear hC hc al hbw HX1 HX2 HB3 cP c0 c1 c2 c3 HC5
  gi_wp2_with (refine ⟨trivial, ?_⟩; gi_at_call 58; refine (callsIn_wide.2 (erasf_any c _)).mono ?_; rintro e w5 ⟨rfl, rfl⟩)
  have al6 := (Below.refl (W4.alloc (.cells #[.slice c.rA c.rules.length c.rc, .slice c.zA c.zones.length c.zc, .slice c.kA c.links.length c.kc, .slice c.hA c.shifts.length c.hc] 32)).heap.size (W4.alloc (.cells #[.slice c.rA c.rules.length c.rc, .slice c.zA c.zones.length c.zc, .slice c.kA c.links.length c.kc, .slice c.hA c.shifts.length c.hc] 32))).alloc (Nat.le_refl _) (.cells #[.slice c.rA c.rules.length c.rc, .slice c.zA c.zones.length c.zc, .slice c.kA c.links.length c.kc, .slice c.hA c.shifts.length c.hc] 32)
  have HI6 := Lib.hid (HIT.out.below al6)
  have HB6 := Lib.hid (Blk.newAt (W4.alloc (.cells #[.slice c.rA c.rules.length c.rc, .slice c.zA c.zones.length c.zc, .slice c.kA c.links.length c.kc, .slice c.hA c.shifts.length c.hc] 32)) (W4.heap.size + 1) (by simp) 32 #[.slice c.rA c.rules.length c.rc, .slice c.zA c.zones.length c.zc, .slice c.kA c.links.length c.kc, .slice c.hA c.shifts.length c.hc])
  have HS6 := Lib.hid (show ((W4.alloc (.cells #[.slice c.rA c.rules.length c.rc, .slice c.zA c.zones.length c.zc, .slice c.kA c.links.length c.kc, .slice c.hA c.shifts.length c.hc] 32)).alloc (.cells #[.slice c.rA c.rules.length c.rc, .slice c.zA c.zones.length c.zc, .slice c.kA c.links.length c.kc, .slice c.hA c.shifts.length c.hc] 32)).heap.size = W4.heap.size + 2 by simp)
  have HCF := Lib.hid (few_same HFW.out HCS.out)
  clear al6 HIT HO5 y0 y1 y2 y3
  generalize ((W4.alloc (.cells #[.slice c.rA c.rules.length c.rc, .slice c.zA c.zones.length c.zc, .slice c.kA c.links.length c.kc, .slice c.hA c.shifts.length c.hc] 32)).alloc (.cells #[.slice c.rA c.rules.length c.rc, .slice c.zA c.zones.length c.zc, .slice c.kA c.links.length c.kc, .slice c.hA c.shifts.length c.hc] 32)) = W6 at HI6 HB6 HS6 ⊢
  generalize W4.heap.size = g5 at HI6 HB6 HS6 ⊢
  refine wpIn_rangeFunc_ownG rfl (by omega) (gf := 94) (lb := #[.pointer (some ⟨g5 + 1, 0, none⟩)]) rfl trivial (enters_of Tryd.func94 (by kernel_rfl) rfl)
    (encs := fun x : Pl c.zones => #[.pointer (some ⟨zb c.zones x.1.1, x.1.2 * 13, none⟩)]) (Kp := KE) (S := fun ys => vals ys = plTo c.zones c.zones.length 0) (Sp := fun _ => True) (N := 1000001) (w0 := W6)
    (fun l J Jx W hW hJ _ hY h0 => eras_in _ (by omega) l (g5 + 1) (w.heap.size + 5) c ⟨HCF.out.lens.2.1, HCF.out.eras⟩ J Jx W hJ hY (HB6.out.below hW HB6.out.lt) (HI6.out.cp.zones.1.below hW) (fun i z hz => (HI6.out.cp.zones.2.eras i z hz).below hW) h0)
    (fun h k => h.trans k) (fun W l o o' _ h1 h2 _ => KE.putObj W l o o' h1 h2) (Below.refl _ _) (fun _ => rfl)
    (fun pre W => It w W set c (chgs (turnE set) c.zones (vals pre)) g5 (w.heap.size + 5)) (fun _ _ _ => False)
    (fun s A B row hs hg hr => hs.kept (by have := HI6.out.bel.size; omega) hg hr) (fun cc s A B row hs hg hr => hs.elim) HI6.out
    (fun x => { tmps := #[.agg #[.slice s.rA s.rules.length s.rc, .slice s.zA s.zones.length s.zc, .slice s.kA s.links.length s.kc, .slice s.hA s.shifts.length s.hc], .string set, .pointer (some ⟨w.heap.size, 0, none⟩), .pointer (some ⟨w.heap.size + 1, 0, none⟩), .pointer (some ⟨w.heap.size + 1 + 1, 0, none⟩), .pointer (some ⟨g5, 0, none⟩), .pointer (some ⟨zb c.zones x.1.1, x.1.2 * 13, none⟩), .agg #[.slice s.rA s.rules.length s.rc, .slice s.zA s.zones.length s.zc, .slice s.kA s.links.length s.kc, .slice s.hA s.shifts.length s.hc], .agg #[.slice c.rA c.rules.length c.rc, .slice c.zA c.zones.length c.zc, .slice c.kA c.links.length c.kc, .slice c.hA c.shifts.length c.hc], .agg #[.slice c.rA c.rules.length c.rc, .slice c.zA c.zones.length c.zc, .slice c.kA c.links.length c.kc, .slice c.hA c.shifts.length c.hc], .func (.func 94) #[] #[.pointer (some ⟨g5 + 1, 0, none⟩)], .pointer (some ⟨zb c.zones x.1.1, x.1.2 * 13, none⟩), undef, undef, undef, undef, undef, undef, undef, undef, undef, undef, undef, undef, undef, undef, undef, undef, undef, undef, undef, undef, undef, undef], defers := [] }) ?assign ?body ?done ?stop
  case assign =>
    intro l x W K hK
    gi_wp2
    exact hK
  case body =>
    rintro l pre ⟨⟨i, k⟩, hp⟩ W hI hlen
    obtain ⟨y, e, g, hy, he, hA, hzb, hgb, hrow⟩ := hI.at_ hp
    show Code.wpIn _ _ _ _ _ _ W
    have hzb' : zb c.zones i = g := hzb
    have e1 := hrow.cellAt len_era he 1 _ rfl
    have e3 := hrow.cellAt len_era he 3 _ rfl
    have e4 := hrow.cellAt len_era he 4 _ rfl
    have f4 := hrow.frozenAt (k * 13 + 4)
    have s0 := (hI.set.cell 0).trans rfl
    have hsz : e.fmt.size ≤ 1100000 := hI.sz y (List.mem_of_getElem? hy) e (List.mem_of_getElem? he)
    have HI := Lib.hid hI; have HY := Lib.hid hy; have HE := Lib.hid he; have HA := Lib.hid hA
    simp only [hzb']
    have hgl : g < W.heap.size := (World.ownsRow.lt hrow g rfl).2
    have HGL := Lib.hid hgl; have HROW := Lib.hid hrow
    clear hI hy he hA hzb hzb' hrow hlen hgl
    have hmx : Tryd.prog.follows .mixedOrders = true := by kernel_rfl
    by_cases hks : e.kind = 2 ∧ e.set = set
    · obtain ⟨hk, hs⟩ := hks
      have hk2 : (e.kind == 2) = true := by rw [hk]; rfl
      have hs2 : (e.set.toList == set.toList) = true := by rw [hs]; simp
      have cF := Lib.hid (fun W' (h : Below w.heap.size w W') => tformat_any e.fmt W' hsz (HV.out.below h))
      have HN := Lib.hid (show ∀ W', Below W.heap.size W W' → It w (W'.setCell ⟨g, k * 13 + 4, none⟩ (.string (turnB e.fmt))) set c (chgs (turnE set) c.zones (vals (pre ++ [(⟨(i, k), hp⟩ : Pl c.zones)]))) g5 (w.heap.size + 5) from fun W' hb => by
        rw [vals_snoc, chgs_snoc]
        exact (HI.out.below hb).set_ (p := (i, k)) HY.out HE.out HA.out hk hs)
      clear hk hs hsz
      gi_wp2
      gi_region_o
      all_goals gi_wp2
      all_goals
        refine ⟨trivial, ?_⟩
        refine (CallsIn.inRound l (callsIn_wide.2 (cF.out _ HI.out.bel.drew))).mono ?_
        rintro x W2 ⟨rfl, hc⟩
        have hb2 : Below W.heap.size W W2 := ((Below.refl W.heap.size W).drew).trans hc
        have e4 : W2.cell? ⟨g, k * 13 + 4, none⟩ = some (.string e.fmt) := (hb2.cell (p := ⟨g, k * 13 + 4, none⟩) HGL.out).trans e4
        have f4 : W2.frozen? ⟨g, k * 13 + 4, none⟩ = false := RowOf.frozenAt (HROW.out.below hb2) _
        have HK := Lib.hid (And.intro (((ko_below hb2).trans (KeepsOthers.setCell W2 ⟨g, k * 13 + 4, none⟩ (.string (turnB e.fmt)))).from W6.heap.size) (And.intro ((KE.below hb2).trans (KE.set_row (HROW.out.below hb2) (k * 13 + 4) (.string (turnB e.fmt)))) (HN.out W2 hb2)))
        clear hc hb2
        gi_wp2
        exact ⟨HK.out.1, HK.out.2.1, HK.out.2.2⟩
    · have HN := Lib.hid (show It w W set c (chgs (turnE set) c.zones (vals (pre ++ [(⟨(i, k), hp⟩ : Pl c.zones)]))) g5 (w.heap.size + 5) from by
        rw [vals_snoc, chgs_snoc]
        exact HI.out.skip (p := (i, k)) HY.out HE.out hks)
      have HD := Lib.hid (show It w W.drew set c (chgs (turnE set) c.zones (vals (pre ++ [(⟨(i, k), hp⟩ : Pl c.zones)]))) g5 (w.heap.size + 5) from HN.out.below (Below.refl _ _).drew)
      by_cases hk : e.kind = 2
      · have hk2 : (e.kind == 2) = true := by rw [hk]; rfl
        have hs2 : (e.set.toList == set.toList) = false := eq_b _ _ (fun q => hks ⟨hk, q⟩)
        clear hk hks hsz
        gi_wp2
        gi_region_o
        all_goals gi_wp2
        all_goals exact ⟨(KeepsOthers.drew W).from _, KE.below (Below.refl _ _).drew, HD.out⟩
      · have hk2 : (e.kind == 2) = false := by simpa using hk
        clear hk hks hsz
        gi_wp2
        gi_region_o
        all_goals gi_wp2
        all_goals exact ⟨(KeepsOthers.drew W).from _, KE.below (Below.refl _ _).drew, HD.out⟩
  case done =>
    rintro D ys W hD hys hI hK
    have HYS := Lib.hid hys
    obtain ⟨Y, hY⟩ : ∃ Y, chgs (turnE set) c.zones (vals ys) = Y := ⟨_, rfl⟩
    rw [hY] at hI
    have HYE := Lib.hid hY
    have o0 := (hI.out.cell 0).trans rfl; have o1 := (hI.out.cell 1).trans rfl; have o2 := (hI.out.cell 2).trans rfl; have o3 := (hI.out.cell 3).trans rfl
    have r0 := (hI.res.cell 0).trans rfl; have r1 := (hI.res.cell 1).trans rfl; have r2 := (hI.res.cell 2).trans rfl; have r3 := (hI.res.cell 3).trans rfl
    have z0 := hI.res.frozen 0; have z1 := hI.res.frozen 1; have z2 := hI.res.frozen 2; have z3 := hI.res.frozen 3
    have q4 := GS.set4 hI.res (.slice c.rA c.rules.length c.rc) (.slice c.zA c.zones.length c.zc) (.slice c.kA c.links.length c.kc) (.slice c.hA c.shifts.length c.hc)
    have hb4 := below_set4 hI.bel (show w.heap.size ≤ w.heap.size + 2 by omega) (.slice c.rA c.rules.length c.rc) (.slice c.zA c.zones.length c.zc) (.slice c.kA c.links.length c.kc) (.slice c.hA c.shifts.length c.hc)
    have hko := (((KeepsOthers.setCell W ⟨w.heap.size + 2, 0, none⟩ (.slice c.rA c.rules.length c.rc)).trans (KeepsOthers.setCell _ ⟨w.heap.size + 2, 1, none⟩ (.slice c.zA c.zones.length c.zc))).trans (KeepsOthers.setCell _ ⟨w.heap.size + 2, 2, none⟩ (.slice c.kA c.links.length c.kc))).trans (KeepsOthers.setCell _ ⟨w.heap.size + 2, 3, none⟩ (.slice c.hA c.shifts.length c.hc))
    have hK8 := hko.same D _ hK rfl
    have hgr := grownBy_putObj' ((((W.setCell ⟨w.heap.size + 2, 0, none⟩ (.slice c.rA c.rules.length c.rc)).setCell ⟨w.heap.size + 2, 1, none⟩ (.slice c.zA c.zones.length c.zc)).setCell ⟨w.heap.size + 2, 2, none⟩ (.slice c.kA c.links.length c.kc)).setCell ⟨w.heap.size + 2, 3, none⟩ (.slice c.hA c.shifts.length c.hc)) D (.deferred none)
    have hrw : ∀ r, some D = some r → ∃ o : Obj, ((((W.setCell ⟨w.heap.size + 2, 0, none⟩ (.slice c.rA c.rules.length c.rc)).setCell ⟨w.heap.size + 2, 1, none⟩ (.slice c.zA c.zones.length c.zc)).setCell ⟨w.heap.size + 2, 2, none⟩ (.slice c.kA c.links.length c.kc)).setCell ⟨w.heap.size + 2, 3, none⟩ (.slice c.hA c.shifts.length c.hc)).heap[r]? = some o ∧ o.isCells = false := fun r e => by cases e; exact ⟨_, hK8, rfl⟩
    have hbk := kept_blk q4.2 hgr hrw
    have hcp := (hI.cp.gs q4.1).gs (kept_gs hgr hrw)
    have hdw : w.heap.size ≤ D := Nat.le_trans HI6.out.bel.size hD
    have hbf := hb4.grown hgr hb4.size (fun k e => by cases e; exact hdw)
    have k0 := (hbk.cell 0).trans rfl; have k1 := (hbk.cell 1).trans rfl; have k2 := (hbk.cell 2).trans rfl; have k3 := (hbk.cell 3).trans rfl
    have HCP := Lib.hid hcp; have HBF := Lib.hid hbf; have HK8 := Lib.hid hK8
    have hyl := Lib.hid hI.like.1
    have HZS := Lib.hid (show zSame14 Y (c.zones.map (mapE (turnE set))) by rw [← HYE.out, HYS.out]; exact chgs_all _ _)
    clear q4 hb4 hko hgr hrw hbk hcp hbf hI hY hys hK hK8
    gi_wp2
    refine ⟨by simp, .inl ⟨_, _, rfl, run_takeDeferred HK8.out, ?_⟩⟩
    refine ⟨.agg #[.slice c.rA c.rules.length c.rc, .slice c.zA c.zones.length c.zc, .slice c.kA c.links.length c.kc, .slice c.hA c.shifts.length c.hc], ?_, ?_⟩
    · simp [results, Tryd.results31, go_sem, k0, k1, k2, k3]
    · refine ⟨{ c with zones := Y }, ?_, HCP.out.low (by omega), ⟨HCS.out.rules, HCS.out.links, HCS.out.shifts, HZS.out.trans (mapS_same (turnE set) HCS.out).zones⟩, HBF.out⟩
      show _ = Ending.returned (.agg #[_, .slice c.zA Y.length c.zc, _, _])
      rw [hyl.out]
  case stop =>
    rintro D cc pre W hD _ h
    exact h.elim
end Go.Proofs.YtlideagcmhlkeaaDoor

/- The examples of chapter 29 (works). -/
namespace Go.Proofs.YtlideagcmhlkeaaDoor
open Go.RowKit Go.Lib
set_option linter.unusedVariables false
set_option linter.unusedSimpArgs false

theorem ex29 : ∀ k, k < 6 → ∃ a b, ((#[.string ⟨#[67, 69, 84, 47, 67, 69, 83, 84]⟩, .string ⟨#[67, 69, 83, 84, 47, 67, 69, 84]⟩, .string ⟨#[43, 48, 53, 47, 43, 48, 54]⟩, .string ⟨#[43, 48, 54, 47, 43, 48, 53]⟩, .string ⟨#[69, 37, 115, 84]⟩, .string ⟨#[69, 37, 115, 84]⟩, .string ⟨#[37, 122]⟩, .string ⟨#[37, 122]⟩, .string ⟨#[65, 47, 66]⟩, .string ⟨#[65, 47, 66]⟩, .string ⟨#[]⟩, .string ⟨#[]⟩] : Array Value)[k * 2]? = some (.string a)) ∧ ((#[.string ⟨#[67, 69, 84, 47, 67, 69, 83, 84]⟩, .string ⟨#[67, 69, 83, 84, 47, 67, 69, 84]⟩, .string ⟨#[43, 48, 53, 47, 43, 48, 54]⟩, .string ⟨#[43, 48, 54, 47, 43, 48, 53]⟩, .string ⟨#[69, 37, 115, 84]⟩, .string ⟨#[69, 37, 115, 84]⟩, .string ⟨#[37, 122]⟩, .string ⟨#[37, 122]⟩, .string ⟨#[65, 47, 66]⟩, .string ⟨#[65, 47, 66]⟩, .string ⟨#[]⟩, .string ⟨#[]⟩] : Array Value)[k * 2 + 1]? = some (.string b)) ∧ turnB a = b ∧ a.size ≤ 100 := fun k hk => by
  match k, hk with
  | 0, _ | 1, _ | 2, _ | 3, _ | 4, _ | 5, _ => exact ⟨_, _, rfl, rfl, by decide +kernel, by decide⟩
theorem cells_blk {α : Type} {w : World} {g m : Nat} {t : TypeId} {cs : Array Value} {f : α → List Value} {L : List α} (h : Blk w g t cs) (hm : 0 < m) (hf : ∀ a, (f a).length = m) (hc : cs.toList = L.flatMap f) : CellsIn m f w (some ⟨g, 0, none⟩) L := by
  intro k r hr
  refine ⟨g, 0, rfl, h.lt, fun j u hu => ?_⟩
  have hj : j < m := by have := (List.getElem?_eq_some_iff.1 hu).1; rw [hf] at this; exact this
  rw [Nat.zero_add, h.cell, ← Array.getElem?_toList, hc]
  have q := flat_pick hf L k j r hj hr
  rw [q]
  exact hu
/-- the source of the example -/
def s29 (B1 B2 : Nat) : SV := ⟨none, 0, [], some ⟨B2, 0, none⟩, 1, [⟨⟨#[90]⟩, some ⟨B1, 0, none⟩, 3, [⟨0, 0, 0, ⟨#[]⟩, ⟨#[71, 77, 84, 47, 66, 83, 84]⟩, false, 0, 0, 0, 0, 0, 0, 0⟩, ⟨0, 2, 0, ⟨#[82]⟩, ⟨#[71, 77, 84, 47, 66, 83, 84]⟩, false, 0, 0, 0, 0, 0, 0, 0⟩, ⟨0, 2, 0, ⟨#[81]⟩, ⟨#[71, 77, 84, 47, 66, 83, 84]⟩, false, 0, 0, 0, 0, 0, 0, 0⟩]⟩], none, 0, [], none, 0, []⟩
theorem s29_in {w : World} {B1 B2 : Nat} (h1 : Blk w B1 47 #[.int .i64 0, .int .i64 0, .int .i64 0, .string ⟨#[]⟩, .string ⟨#[71, 77, 84, 47, 66, 83, 84]⟩, .bool false, .int .i64 0, .int .i64 0, .int .i64 0, .int .i64 0, .int .i64 0, .int .i64 0, .int .i64 0, .int .i64 0, .int .i64 2, .int .i64 0, .string ⟨#[82]⟩, .string ⟨#[71, 77, 84, 47, 66, 83, 84]⟩, .bool false, .int .i64 0, .int .i64 0, .int .i64 0, .int .i64 0, .int .i64 0, .int .i64 0, .int .i64 0, .int .i64 0, .int .i64 2, .int .i64 0, .string ⟨#[81]⟩, .string ⟨#[71, 77, 84, 47, 66, 83, 84]⟩, .bool false, .int .i64 0, .int .i64 0, .int .i64 0, .int .i64 0, .int .i64 0, .int .i64 0, .int .i64 0]) (h2 : Blk w B2 39 #[.string ⟨#[90]⟩, .slice (some ⟨B1, 0, none⟩) 3 3]) : SrcIn w (s29 B1 B2) := by
  refine ⟨fun k r h => by simp [s29] at h, cells_blk h2 (by decide) len_zone rfl, fun k r h => by simp [s29] at h, fun k r h => by simp [s29] at h, fun z hz => ?_⟩
  obtain rfl := List.mem_singleton.1 hz
  exact cells_blk h1 (by decide) len_era rfl
theorem s29_few (B1 B2 : Nat) : Few30 (s29 B1 B2) := by
  refine ⟨by simp [s29], fun z hz => ?_, fun z hz e he => ?_, fun y hy => by simp [s29, svs] at hy⟩
  · obtain rfl := List.mem_singleton.1 hz
    show 3 ≤ 1000
    decide
  · obtain rfl := List.mem_singleton.1 hz
    have key : ∀ e ∈ ([⟨0, 0, 0, ⟨#[]⟩, ⟨#[71, 77, 84, 47, 66, 83, 84]⟩, false, 0, 0, 0, 0, 0, 0, 0⟩, ⟨0, 2, 0, ⟨#[82]⟩, ⟨#[71, 77, 84, 47, 66, 83, 84]⟩, false, 0, 0, 0, 0, 0, 0, 0⟩, ⟨0, 2, 0, ⟨#[81]⟩, ⟨#[71, 77, 84, 47, 66, 83, 84]⟩, false, 0, 0, 0, 0, 0, 0, 0⟩] : List EV), (-9223372036854775808 ≤ e.off ∧ e.off ≤ 9223372036854775807) ∧ (-9223372036854775808 ≤ e.save ∧ e.save ≤ 9223372036854775807) ∧ e.fmt.size ≤ 1100000 := by decide
    exact key e he
theorem s29_turn (B1 B2 : Nat) : mapS (turnE ⟨#[82]⟩) (s29 B1 B2) = ⟨none, 0, [], some ⟨B2, 0, none⟩, 1, [⟨⟨#[90]⟩, some ⟨B1, 0, none⟩, 3, [⟨0, 0, 0, ⟨#[]⟩, ⟨#[71, 77, 84, 47, 66, 83, 84]⟩, false, 0, 0, 0, 0, 0, 0, 0⟩, ⟨0, 2, 0, ⟨#[82]⟩, ⟨#[66, 83, 84, 47, 71, 77, 84]⟩, false, 0, 0, 0, 0, 0, 0, 0⟩, ⟨0, 2, 0, ⟨#[81]⟩, ⟨#[71, 77, 84, 47, 66, 83, 84]⟩, false, 0, 0, 0, 0, 0, 0, 0⟩]⟩], none, 0, [], none, 0, []⟩ := by
  have h : turnB ⟨#[71, 77, 84, 47, 66, 83, 84]⟩ = ⟨#[66, 83, 84, 47, 71, 77, 84]⟩ := by decide +kernel
  unfold mapS s29 mapE
  simp [turnE, h]
set_option maxRecDepth 100000 in
set_option maxHeartbeats 8000000 in
theorem works29_any (w : World) (hv : Vars21 w) : Calls Tryd.prog 30 #[] w fun x w' => x = .returned (.bool true) ∧ Below w.heap.size w w' := by
  have HV := Lib.hid hv
  have HB0 := Lib.hid (Blk.new w 115 #[.string ⟨#[67, 69, 84, 47, 67, 69, 83, 84]⟩, .string ⟨#[67, 69, 83, 84, 47, 67, 69, 84]⟩, .string ⟨#[43, 48, 53, 47, 43, 48, 54]⟩, .string ⟨#[43, 48, 54, 47, 43, 48, 53]⟩, .string ⟨#[69, 37, 115, 84]⟩, .string ⟨#[69, 37, 115, 84]⟩, .string ⟨#[37, 122]⟩, .string ⟨#[37, 122]⟩, .string ⟨#[65, 47, 66]⟩, .string ⟨#[65, 47, 66]⟩, .string ⟨#[]⟩, .string ⟨#[]⟩])
  have HW0 := Lib.hid ((Below.refl w.heap.size w).alloc (Nat.le_refl _) (.cells #[.string ⟨#[67, 69, 84, 47, 67, 69, 83, 84]⟩, .string ⟨#[67, 69, 83, 84, 47, 67, 69, 84]⟩, .string ⟨#[43, 48, 53, 47, 43, 48, 54]⟩, .string ⟨#[43, 48, 54, 47, 43, 48, 53]⟩, .string ⟨#[69, 37, 115, 84]⟩, .string ⟨#[69, 37, 115, 84]⟩, .string ⟨#[37, 122]⟩, .string ⟨#[37, 122]⟩, .string ⟨#[65, 47, 66]⟩, .string ⟨#[65, 47, 66]⟩, .string ⟨#[]⟩, .string ⟨#[]⟩] 115))
  clear hv
  go_enter Tryd.func30, Tryd.ntmps30
  go_wp2_with fail
  go_loopw [2, 12] (fun s2 i W => ∃ k : Nat, k ≤ 6 ∧ i = .int .i64 k ∧ Below (w.alloc (.cells #[.string ⟨#[67, 69, 84, 47, 67, 69, 83, 84]⟩, .string ⟨#[67, 69, 83, 84, 47, 67, 69, 84]⟩, .string ⟨#[43, 48, 53, 47, 43, 48, 54]⟩, .string ⟨#[43, 48, 54, 47, 43, 48, 53]⟩, .string ⟨#[69, 37, 115, 84]⟩, .string ⟨#[69, 37, 115, 84]⟩, .string ⟨#[37, 122]⟩, .string ⟨#[37, 122]⟩, .string ⟨#[65, 47, 66]⟩, .string ⟨#[65, 47, 66]⟩, .string ⟨#[]⟩, .string ⟨#[]⟩] 115)).heap.size (w.alloc (.cells #[.string ⟨#[67, 69, 84, 47, 67, 69, 83, 84]⟩, .string ⟨#[67, 69, 83, 84, 47, 67, 69, 84]⟩, .string ⟨#[43, 48, 53, 47, 43, 48, 54]⟩, .string ⟨#[43, 48, 54, 47, 43, 48, 53]⟩, .string ⟨#[69, 37, 115, 84]⟩, .string ⟨#[69, 37, 115, 84]⟩, .string ⟨#[37, 122]⟩, .string ⟨#[37, 122]⟩, .string ⟨#[65, 47, 66]⟩, .string ⟨#[65, 47, 66]⟩, .string ⟨#[]⟩, .string ⟨#[]⟩] 115)) W) (fun _ i _ => 6 - (intOf i).toNat)
  case atStart => exact ⟨0, by decide, rfl, Below.refl _ _⟩
  case round =>
    obtain ⟨k, hk, rfl, hb⟩ := hrel
    have HB := Lib.hid hb
    by_cases hlt : k < 6
    · have hki : (k : Int) < 6 := by omega
      have hk0 : (0 : Int) ≤ (k : Int) := by omega
      obtain ⟨a, b, h1, h2, h3, h4⟩ := ex29 k hlt
      have hbb := HB0.out.below hb HB0.out.lt
      have c0 := (hbb.cell (k * 2)).trans h1
      have c1 := (hbb.cell (k * 2 + 1)).trans h2
      have HX := Lib.hid (Blk.new wr 115 #[.string a, .string b])
      have H3 := Lib.hid h3; have H4 := Lib.hid h4; have HLT := Lib.hid hlt
      clear hb hlt h1 h2 h3 h4 hbb
      go_upto_region 4 with fail
      clear c0 c1
      refine wp_region_shape [(some 16, []), (some 17, [0]), (some 18, [1]), (some 19, []), (some 20, [3]), (some 21, [2, 4])] (fun y => { tmps := #[u0, undef, .pointer (some ⟨wr.heap.size, 0, none⟩), undef, .agg #[.string ⟨#[67, 69, 84, 47, 67, 69, 83, 84]⟩, .string ⟨#[67, 69, 83, 84, 47, 67, 69, 84]⟩], .agg #[.string ⟨#[43, 48, 53, 47, 43, 48, 54]⟩, .string ⟨#[43, 48, 54, 47, 43, 48, 53]⟩], .agg #[.string ⟨#[69, 37, 115, 84]⟩, .string ⟨#[69, 37, 115, 84]⟩], .agg #[.string ⟨#[37, 122]⟩, .string ⟨#[37, 122]⟩], .agg #[.string ⟨#[65, 47, 66]⟩, .string ⟨#[65, 47, 66]⟩], .agg #[.string ⟨#[]⟩, .string ⟨#[]⟩], .slice (some ⟨w.heap.size, 0, none⟩) 6 6, .int .i64 6, .int .i64 k, .bool true, .pointer (some ⟨w.heap.size, k * 2, none⟩), .agg #[.string a, .string b], y 16, y 17, y 18, y 19, y 20, y 21, u22, undef, undef, undef, undef, undef, undef, undef, undef, undef, undef, undef, undef, undef, undef, undef, undef, undef, undef, undef, undef, undef, undef, undef, undef, undef, undef, undef, undef, undef, undef, undef, undef, undef, undef, undef, undef, undef, undef, undef, undef, undef, undef, undef, undef, undef, undef, undef, undef, undef, undef, undef, undef, undef, undef], defers := [] }) (fun k => match k with | 16 => u16 | 17 => u17 | 18 => u18 | 19 => u19 | 20 => u20 | 21 => u21 | _ => undef) (fun j => false) [.pointer (some ⟨wr.heap.size, 0, none⟩), .string a, .string b, .pointer (some ⟨wr.heap.size, 1, none⟩), .string b, .bool false] (fun j y W => match j with  | _ => True) (fun j => match j with  | _ => []) (fun W W' => Below W.heap.size W W') (fun W => Below (wr.alloc (.cells #[.string a, .string b] 115)).heap.size (wr.alloc (.cells #[.string a, .string b] 115)) W) (by kernel_rfl) (by kernel_rfl) (by decide +kernel) rfl (Below.refl _ _).drew ?hput4 ?hloc4 ?hmono4 ?hstep4 ?hdone4
      case hput4 =>
        intro d hd y v
        simp only [List.filterMap_cons, List.filterMap_nil, List.mem_cons, List.not_mem_nil, or_false] at hd
        rcases hd with rfl | rfl | rfl | rfl | rfl | rfl
        all_goals rfl
      case hloc4 =>
        intro j hj; cases hj
      case hmono4 =>
        intro j hj; cases hj
      case hdone4 =>
        intro y4 w4 hS hd
        have e21 : y4 21 = .bool false := (hd 5 (by decide)).val rfl rfl
        rw [e21]
        have HBN := Lib.hid (HB.out.trans ((((Below.refl wr.heap.size wr).alloc (Nat.le_refl _) (.cells #[.string a, .string b] 115)).trans (hS.mono (by simp))).mono HB.out.size))
        clear hd hS
        go_wp2_with fail
        go_roundw
        case rel => exact ⟨k + 1, by have := HLT.out; omega, by go_num, HBN.out⟩
        case measure => have := HLT.out; simp [intOf]; omega
      case hstep4 =>
        refine StepsOk.cons (StepOk.known rfl fun y W hS hd K' hK => ?_) ?_
        · skip
          clear hd
          go_simp
          exact hK.out _ _ rfl (Below.refl _ _) hS
        refine StepsOk.cons (StepOk.known rfl fun y W hS hd K' hK => ?_) ?_
        · skip
          have e16 : y 16 = .pointer (some ⟨wr.heap.size, 0, none⟩) := (hd 0 rfl).val rfl rfl
          clear hd
          have r := ((HX.out.below hS HX.out.lt).cell 0).trans rfl
          go_simp
          exact hK.out _ _ (by first | rfl | (simp only [e16]; done) | (simp only [e16]; rfl)) (Below.refl _ _) hS
        refine StepsOk.cons (StepOk.known rfl fun y W hS hd K' hK => ?_) ?_
        · skip
          have e17 : y 17 = .string a := (hd 1 rfl).val rfl rfl
          clear hd
          have hbw : Below w.heap.size w W := HW0.out.trans ((HB.out.trans ((((Below.refl wr.heap.size wr).alloc (Nat.le_refl _) (.cells #[.string a, .string b] 115)).trans (hS.mono (by simp))).mono HB.out.size)).mono HW0.out.size)
          have cF := tformat_any a W (by have := H4.out; omega) (HV.out.below hbw)
          rw [H3.out] at cF
          go_simp
          refine cF.mono ?_
          rintro x W' ⟨rfl, hc⟩
          go_wp2_with fail
          exact hK.out _ _ (by first | rfl | (simp only [e17]; done) | (simp only [e17]; rfl)) hc (hS.trans (hc.mono hS.size))
        refine StepsOk.cons (StepOk.known rfl fun y W hS hd K' hK => ?_) ?_
        · skip
          clear hd
          go_simp
          exact hK.out _ _ rfl (Below.refl _ _) hS
        refine StepsOk.cons (StepOk.known rfl fun y W hS hd K' hK => ?_) ?_
        · skip
          have e19 : y 19 = .pointer (some ⟨wr.heap.size, 1, none⟩) := (hd 3 rfl).val rfl rfl
          clear hd
          have r := ((HX.out.below hS HX.out.lt).cell 1).trans rfl
          go_simp
          exact hK.out _ _ (by first | rfl | (simp only [e19]; done) | (simp only [e19]; rfl)) (Below.refl _ _) hS
        refine StepsOk.cons (StepOk.known rfl fun y W hS hd K' hK => ?_) ?_
        · skip
          have e18 : y 18 = .string b := (hd 2 rfl).val rfl rfl
          have e20 : y 20 = .string b := (hd 4 rfl).val rfl rfl
          clear hd
          have hq : (b.toList == b.toList) = true := by simp
          go_simp
          exact hK.out _ _ (by first | rfl | (simp only [e18, e20]; done) | (simp only [e18, e20]; rfl)) (Below.refl _ _) hS
        exact StepsOk.nil
    · obtain rfl : k = 6 := by omega
      obtain ⟨wz, hwz⟩ : ∃ x, x = wr := ⟨_, rfl⟩
      subst hwz
      have hbz := HW0.out.trans (hb.mono HW0.out.size)
      have hb2 := (hbz.alloc hbz.size (.cells #[.int .i64 0, .int .i64 0, .int .i64 0, .string ⟨#[]⟩, .string ⟨#[71, 77, 84, 47, 66, 83, 84]⟩, .bool false, .int .i64 0, .int .i64 0, .int .i64 0, .int .i64 0, .int .i64 0, .int .i64 0, .int .i64 0, .int .i64 0, .int .i64 2, .int .i64 0, .string ⟨#[82]⟩, .string ⟨#[71, 77, 84, 47, 66, 83, 84]⟩, .bool false, .int .i64 0, .int .i64 0, .int .i64 0, .int .i64 0, .int .i64 0, .int .i64 0, .int .i64 0, .int .i64 0, .int .i64 2, .int .i64 0, .string ⟨#[81]⟩, .string ⟨#[71, 77, 84, 47, 66, 83, 84]⟩, .bool false, .int .i64 0, .int .i64 0, .int .i64 0, .int .i64 0, .int .i64 0, .int .i64 0, .int .i64 0] 47)).alloc (by have := hbz.size; simp; omega) (.cells #[.string ⟨#[90]⟩, .slice (some ⟨wz.heap.size, 0, none⟩) 3 3] 39)
      have h1 := (Blk.new wz 47 #[.int .i64 0, .int .i64 0, .int .i64 0, .string ⟨#[]⟩, .string ⟨#[71, 77, 84, 47, 66, 83, 84]⟩, .bool false, .int .i64 0, .int .i64 0, .int .i64 0, .int .i64 0, .int .i64 0, .int .i64 0, .int .i64 0, .int .i64 0, .int .i64 2, .int .i64 0, .string ⟨#[82]⟩, .string ⟨#[71, 77, 84, 47, 66, 83, 84]⟩, .bool false, .int .i64 0, .int .i64 0, .int .i64 0, .int .i64 0, .int .i64 0, .int .i64 0, .int .i64 0, .int .i64 0, .int .i64 2, .int .i64 0, .string ⟨#[81]⟩, .string ⟨#[71, 77, 84, 47, 66, 83, 84]⟩, .bool false, .int .i64 0, .int .i64 0, .int .i64 0, .int .i64 0, .int .i64 0, .int .i64 0, .int .i64 0]).alloc (.cells #[.string ⟨#[90]⟩, .slice (some ⟨wz.heap.size, 0, none⟩) 3 3] 39)
      have h2 := Blk.newAt (wz.alloc (.cells #[.int .i64 0, .int .i64 0, .int .i64 0, .string ⟨#[]⟩, .string ⟨#[71, 77, 84, 47, 66, 83, 84]⟩, .bool false, .int .i64 0, .int .i64 0, .int .i64 0, .int .i64 0, .int .i64 0, .int .i64 0, .int .i64 0, .int .i64 0, .int .i64 2, .int .i64 0, .string ⟨#[82]⟩, .string ⟨#[71, 77, 84, 47, 66, 83, 84]⟩, .bool false, .int .i64 0, .int .i64 0, .int .i64 0, .int .i64 0, .int .i64 0, .int .i64 0, .int .i64 0, .int .i64 0, .int .i64 2, .int .i64 0, .string ⟨#[81]⟩, .string ⟨#[71, 77, 84, 47, 66, 83, 84]⟩, .bool false, .int .i64 0, .int .i64 0, .int .i64 0, .int .i64 0, .int .i64 0, .int .i64 0, .int .i64 0] 47)) (wz.heap.size + 1) (by simp) 39 #[.string ⟨#[90]⟩, .slice (some ⟨wz.heap.size, 0, none⟩) 3 3]
      have cT := Lib.hid (teras_any (s29 wz.heap.size (wz.heap.size + 1)) ⟨#[82]⟩ ((wz.alloc (.cells #[.int .i64 0, .int .i64 0, .int .i64 0, .string ⟨#[]⟩, .string ⟨#[71, 77, 84, 47, 66, 83, 84]⟩, .bool false, .int .i64 0, .int .i64 0, .int .i64 0, .int .i64 0, .int .i64 0, .int .i64 0, .int .i64 0, .int .i64 0, .int .i64 2, .int .i64 0, .string ⟨#[82]⟩, .string ⟨#[71, 77, 84, 47, 66, 83, 84]⟩, .bool false, .int .i64 0, .int .i64 0, .int .i64 0, .int .i64 0, .int .i64 0, .int .i64 0, .int .i64 0, .int .i64 0, .int .i64 2, .int .i64 0, .string ⟨#[81]⟩, .string ⟨#[71, 77, 84, 47, 66, 83, 84]⟩, .bool false, .int .i64 0, .int .i64 0, .int .i64 0, .int .i64 0, .int .i64 0, .int .i64 0, .int .i64 0] 47)).alloc (.cells #[.string ⟨#[90]⟩, .slice (some ⟨wz.heap.size, 0, none⟩) 3 3] 39)) (s29_in h1 h2) (s29_few _ _) (HV.out.below hb2))
      have HB2 := Lib.hid hb2
      clear hb hbz hb2 h1 h2
      go_wp2_with fail
      refine cT.out.mono ?_
      rintro x W5 ⟨t, rfl, hC, hs, hc⟩
      rw [s29_turn] at hs
      have hl : t.zones.length = 1 := hs.zones.1
      obtain ⟨y, hy⟩ : ∃ y, t.zones[0]? = some y := ⟨_, List.getElem?_eq_getElem (by omega)⟩
      have hye := (hs.zones.2 0 y _ (by omega) hy rfl).2
      obtain ⟨zg, hzA, _, hzl⟩ := hC.zones.1.addr (by omega)
      obtain ⟨yg, hyA, _, hyl⟩ := hC.eraAddr hy (by rw [hye]; show 0 < 3; decide)
      have hal := (Below.refl W5.heap.size W5).alloc (Nat.le_refl _) (.cells #[.slice t.rA t.rules.length t.rc, .slice (some ⟨zg, 0, none⟩) 1 t.zc, .slice t.kA t.links.length t.kc, .slice t.hA t.shifts.length t.hc] 32)
      have hzr := hC.zones.1.below hal
      have her := (hC.zones.2.eras 0 y hy).below hal
      rw [hzA] at hzr
      rw [hyA, hye] at her
      have n1 := hzr.cellAt len_zone hy 1 _ rfl
      rw [hyA, hye] at n1
      have m0 := her.cellAt len_era (k := 0) rfl 4 _ rfl
      have m1 := her.cellAt len_era (k := 1) rfl 4 _ rfl
      have m2 := her.cellAt len_era (k := 2) rfl 4 _ rfl
      have HBE := Lib.hid ((HB2.out.trans (hc.mono HB2.out.size)).trans (hal.mono (HB2.out.trans (hc.mono HB2.out.size)).size))
      clear hC hs hc hal hzr her hy hye hyA cT HB2

      go_wp2_with fail
      go_ret
      exact ⟨rfl, HBE.out⟩
end Go.Proofs.YtlideagcmhlkeaaDoor

/- The walk of few (chapter 29): what it says of a source. -/
namespace Go.Proofs.YtlideagcmhlkeaaDoor
open Go.RowKit Go.Lib
set_option linter.unusedVariables false
set_option linter.unusedSimpArgs false

/-- what few says of a source -/
structure Few29 (s : SV) : Prop where
  lens : s.rules.length ≤ 30 ∧ s.zones.length ≤ 10 ∧ s.links.length ≤ 30 ∧ s.shifts.length ≤ 30
  eras : ∀ (i : Nat) (z : ZV), s.zones[i]? = some z → z.eras.length ≤ 10
set_option maxRecDepth 100000 in
set_option maxHeartbeats 16000000 in
theorem few29_any (s : SV) (w : World) (hS : SrcIn w s) (hz : s.rules.length ≤ maxLen ∧ s.zones.length ≤ maxLen ∧ s.links.length ≤ maxLen ∧ s.shifts.length ≤ maxLen ∧ ∀ z ∈ s.zones, z.eras.length ≤ maxLen) :
    Calls Tryd.prog 29 #[.agg #[.slice s.rA s.rules.length s.rc, .slice s.zA s.zones.length s.zc, .slice s.kA s.links.length s.kc, .slice s.hA s.shifts.length s.hc]] w fun e w' => (e = .returned (.bool false) ∨ (e = .returned (.bool true) ∧ Few29 s)) ∧ Below w.heap.size w w' := by
  unfold maxLen at hz
  obtain ⟨z1, z2, z3, z4, z5⟩ := hz
  have HS := Lib.hid hS; have HZ5 := Lib.hid z5
  have i1 : (s.rules.length : Int) ≤ 9223372036854775807 := by omega
  have i2 : (s.zones.length : Int) ≤ 9223372036854775807 := by omega
  have i3 : (s.links.length : Int) ≤ 9223372036854775807 := by omega
  have i4 : (s.shifts.length : Int) ≤ 9223372036854775807 := by omega
  have hX := Blk.new w 32 #[.slice s.rA s.rules.length s.rc, .slice s.zA s.zones.length s.zc, .slice s.kA s.links.length s.kc, .slice s.hA s.shifts.length s.hc]
  have hb0 := (Below.refl w.heap.size w).alloc (Nat.le_refl _) (.cells #[.slice s.rA s.rules.length s.rc, .slice s.zA s.zones.length s.zc, .slice s.kA s.links.length s.kc, .slice s.hA s.shifts.length s.hc] 32)
  have c0 := (hX.cell 0).trans rfl
  have c1 := (hX.cell 1).trans rfl
  have c2 := (hX.cell 2).trans rfl
  have c3 := (hX.cell 3).trans rfl
  have HX := Lib.hid hX; have HB := Lib.hid hb0
  clear hS z1 z2 z3 z4 z5 hX hb0
  by_cases q0 : 30 < s.rules.length
  · have q0i : (30 : Int) < (s.rules.length : Int) := by omega
    clear q0
    go_enter Tryd.func29, Tryd.ntmps29
    go_wp2_with fail
    go_ret
    exact ⟨.inl rfl, HB.out⟩
  have q0i : ¬ (30 : Int) < (s.rules.length : Int) := by omega
  by_cases q1 : 10 < s.zones.length
  · have q1i : (10 : Int) < (s.zones.length : Int) := by omega
    clear q1
    go_enter Tryd.func29, Tryd.ntmps29
    go_wp2_with fail
    go_ret
    exact ⟨.inl rfl, HB.out⟩
  have q1i : ¬ (10 : Int) < (s.zones.length : Int) := by omega
  by_cases q2 : 30 < s.links.length
  · have q2i : (30 : Int) < (s.links.length : Int) := by omega
    clear q2
    go_enter Tryd.func29, Tryd.ntmps29
    go_wp2_with fail
    go_ret
    exact ⟨.inl rfl, HB.out⟩
  have q2i : ¬ (30 : Int) < (s.links.length : Int) := by omega
  by_cases q3 : 30 < s.shifts.length
  · have q3i : (30 : Int) < (s.shifts.length : Int) := by omega
    clear q3
    go_enter Tryd.func29, Tryd.ntmps29
    go_wp2_with fail
    go_ret
    exact ⟨.inl rfl, HB.out⟩
  have q3i : ¬ (30 : Int) < (s.shifts.length : Int) := by omega
  have HQ := Lib.hid (show s.rules.length ≤ 30 ∧ s.zones.length ≤ 10 ∧ s.links.length ≤ 30 ∧ s.shifts.length ≤ 30 by omega)
  clear q0 q1 q2 q3
  go_enter Tryd.func29, Tryd.ntmps29
  go_wp2_with fail
  clear c0 c1 c2 c3
  go_loopw [30] (fun i W => ∃ k : Nat, k ≤ s.zones.length ∧ i = .int .i64 k ∧ Below w.heap.size w W ∧ ∀ (j : Nat) (z : ZV), j < k → s.zones[j]? = some z → z.eras.length ≤ 10) (fun i _ => s.zones.length - (intOf i).toNat)
  case atStart => exact ⟨0, Nat.zero_le _, rfl, HB.out, fun j z hj => absurd hj (Nat.not_lt_zero _)⟩
  case round =>
    clear HX HB
    obtain ⟨k, hk, rfl, hb, hq⟩ := hrel
    by_cases hlt : k < s.zones.length
    · have hki : (k : Int) < (s.zones.length : Int) := by omega
      have hk0 : (0 : Int) ≤ (k : Int) := by omega
      obtain ⟨z, hz⟩ : ∃ z, s.zones[k]? = some z := ⟨_, List.getElem?_eq_getElem hlt⟩
      obtain ⟨g, o, hA, hg, hc⟩ := (HS.out.zones.below hb) k z hz
      rw [hA]
      have n0 : wr.cell? ⟨g, o + k * 2, none⟩ = some (.string z.name) := hc 0 _ rfl
      have n1 : wr.cell? ⟨g, o + k * 2 + 1, none⟩ = some (.slice z.A z.eras.length z.c) := hc 1 _ rfl
      have hel := HZ5.out z (List.mem_of_getElem? hz)
      have heli : (z.eras.length : Int) ≤ 9223372036854775807 := by omega
      have hal := (Below.refl wr.heap.size wr).alloc (Nat.le_refl _) (.cells #[.string z.name, .slice z.A z.eras.length z.c] 39)
      have HB1 := Lib.hid (hb.trans (hal.mono hb.size))
      have d1 := ((Blk.new wr 39 #[.string z.name, .slice z.A z.eras.length z.c]).cell 1).trans rfl
      have HLT := Lib.hid hlt; have HQK := Lib.hid hq; have HZ := Lib.hid hz
      clear hc hb hlt hA hg hal hz hq hel
      by_cases q65 : 10 < z.eras.length
      · have q65i : (10 : Int) < (z.eras.length : Int) := by omega
        clear q65
        go_wp2_with fail
        go_ret
        exact ⟨.inl rfl, HB1.out⟩
      have q65i : ¬ (10 : Int) < (z.eras.length : Int) := by omega
      have HQ65 := Lib.hid (show z.eras.length ≤ 10 by omega)
      clear q65
      go_wp2_with fail
      go_roundw
      case rel => exact ⟨k + 1, by have := HLT.out; omega, by go_num, HB1.out, fun j z2 hj h2 => by
        by_cases hjk : j < k
        · exact HQK.out j z2 hjk h2
        · obtain rfl : j = k := by omega
          rw [HZ.out] at h2
          injection h2 with h2
          subst h2
          exact HQ65.out⟩
      case measure => have := HLT.out; simp [intOf]; omega
    · obtain rfl : k = s.zones.length := by omega
      have HB := Lib.hid hb; have HQZ := Lib.hid hq
      clear hb hq hlt hk
      go_wp2_with fail
      go_ret
      exact ⟨.inr ⟨rfl, HQ.out, fun i z h => HQZ.out i z (List.getElem?_eq_some_iff.1 h).1 h⟩, HB.out⟩
end Go.Proofs.YtlideagcmhlkeaaDoor
