/- Texts of one proof, one behind the other: Mad23; RinvY; Two30; Box2; Laid21; Laid23. -/
import Derived.Test.YtlideagcmhlkeaaDoorRT11
import Derived.BigRegion
import Derived.IntWalk
import Derived.Test.YtlideagcmhlkeaaDoorRows
import Derived.Lib.LaidTab
import Derived.Stop.LaidErr

/- The walk of Draft.Made (chapter 23): the source that a draft makes. DRAFT. -/
namespace Go.Proofs.YtlideagcmhlkeaaDoor
open Go.RowKit Go.Lib
set_option linter.unusedVariables false
set_option linter.unusedSimpArgs false

/-- where the loop over the sets stands; b: the rules are appended -/
structure Em (w W : World) (d : D23) (rA : Option Addr) (rc : Nat) (R : List RV) (b : Bool) (W0 : World) : Prop where
  src : Blk W (w.heap.size) 26 #[.slice d.sA d.sets.length d.sc, .slice d.zA d.zones.length d.zc, .slice d.lA d.links.length d.lc]
  res : Blk W (w.heap.size + 1) 32 #[.slice none 0 0, .slice none 0 0, .slice none 0 0, .slice none 0 0]
  own : ∃ v, Blk W (w.heap.size + 1 + 1) 32 #[v, .slice none 0 0, .slice none 0 0, .slice none 0 0] ∧ (b = false → v = .slice rA R.length rc)
  bel : Below w.heap.size w W
  le : W0.heap.size ≤ W.heap.size
  ahead : b = false → RowOf W (w.heap.size + 1 + 1 + 1) 83 11 RV.cells rA rc R ∧ Below W0.heap.size W0 W
theorem Em.below {w W W' W0 : World} {d : D23} {rA : Option Addr} {rc : Nat} {R : List RV} {b : Bool} (h : Em w W d rA rc R b W0) (hb : Below W.heap.size W W') : Em w W' d rA rc R b W0 :=
  ⟨h.src.below hb h.src.lt, h.res.below hb h.res.lt, by obtain ⟨v, h1, h2⟩ := h.own; exact ⟨v, h1.below hb h1.lt, h2⟩, h.bel.trans (hb.mono h.bel.size), Nat.le_trans h.le hb.size, fun q => ⟨(h.ahead q).1.below hb, (h.ahead q).2.trans (hb.mono h.le)⟩⟩
theorem Em.grown {w W W' W0 : World} {d : D23} {rA : Option Addr} {rc : Nat} {R : List RV} (h : Em w W d rA rc R false W0) (hz : RowOf W (w.heap.size + 1 + 1 + 1) 83 11 RV.cells rA rc R) (hgr : W.grownBy W' (Value.slice rA R.length rc).ownBlock) : Em w W' d rA rc R true W0 :=
  ⟨blk_grown h.src hz hgr (by omega), blk_grown h.res hz hgr (by omega), by obtain ⟨v, h1, h2⟩ := h.own; exact ⟨v, blk_grown h1 hz hgr (by omega), fun q => by cases q⟩, own_grown h.bel hz hgr h.bel.size (by omega), Nat.le_trans h.le hgr.size, fun q => by cases q⟩
/-- where the loop over the zones stands -/
structure Zp (w w1 W : World) (rA : Option Addr) (rc NR : Nat) (yA : Option Addr) (yc : Nat) (Y : List ZV) (N : Nat) : Prop where
  kx : KX w1.heap.size (w.heap.size + 1 + 1) w1 W
  own : Blk W (w.heap.size + 1 + 1) 32 #[.slice rA NR rc, .slice yA Y.length yc, .slice none 0 0, .slice none 0 0]
  zrow : RowOf W w1.heap.size 39 2 ZV.cells yA yc Y
  eras : ∀ y ∈ Y, RowOf W w1.heap.size 47 13 EV.cells y.A y.c y.eras
  good : ∀ y ∈ Y, (1 ≤ y.eras.length ∧ y.eras.length ≤ 4) ∧ ∀ e ∈ y.eras, GE23 N e
  bel : Below w.heap.size w W
theorem Zp.below {w w1 W W' : World} {rA yA : Option Addr} {rc NR yc N : Nat} {Y : List ZV} (h : Zp w w1 W rA rc NR yA yc Y N) (hb : Below W.heap.size W W') : Zp w w1 W' rA rc NR yA yc Y N :=
  ⟨h.kx.below hb, h.own.below hb h.own.lt, h.zrow.below hb, fun y hy => (h.eras y hy).below hb, h.good, h.bel.trans (hb.mono h.bel.size)⟩
/-- the same while the eras' region draws; b: the era is appended -/
structure Im (wo wi W : World) (zb : Nat) (nm : ByteArray) (eA : Option Addr) (ec : Nat) (Es : List EV) (xb : Nat) (xs : Array Value) (b : Bool) (W0 : World) : Prop where
  bel : Below wo.heap.size wo W
  kx : KX wi.heap.size zb wi W
  own : ∃ v, Blk W zb 39 #[.string nm, v] ∧ (b = false → v = .slice eA Es.length ec)
  x : Blk W xb 104 xs
  le : W0.heap.size ≤ W.heap.size
  ahead : b = false → RowOf W wi.heap.size 47 13 EV.cells eA ec Es ∧ Below W0.heap.size W0 W
section
variable {wo wi W W' W0 : World} {zb ec xb : Nat} {nm : ByteArray} {eA : Option Addr} {Es : List EV} {xs : Array Value}
theorem Im.below {b : Bool} (h : Im wo wi W zb nm eA ec Es xb xs b W0) (hb : Below W.heap.size W W') : Im wo wi W' zb nm eA ec Es xb xs b W0 :=
  ⟨h.bel.trans (hb.mono h.bel.size), h.kx.below hb, by obtain ⟨v, h1, h2⟩ := h.own; exact ⟨v, h1.below hb h1.lt, h2⟩, h.x.below hb h.x.lt, Nat.le_trans h.le hb.size, fun q => ⟨(h.ahead q).1.below hb, (h.ahead q).2.trans (hb.mono h.le)⟩⟩
theorem Im.grown (h : Im wo wi W zb nm eA ec Es xb xs false W0) (hw : wo.heap.size ≤ wi.heap.size) (hz : RowOf W wi.heap.size 47 13 EV.cells eA ec Es) (hgr : W.grownBy W' (Value.slice eA Es.length ec).ownBlock) : Im wo wi W' zb nm eA ec Es xb xs true W0 :=
  ⟨own_grown h.bel hz hgr h.bel.size hw, h.kx.grown hz hgr (Nat.le_refl _), by obtain ⟨v, h1, h2⟩ := h.own; exact ⟨v, blk_other h1 hz (by decide) hgr, fun q => by cases q⟩, blk_other h.x hz (by decide) hgr, Nat.le_trans h.le hgr.size, fun q => by cases q⟩
end
/-- where the loop over the links stands -/
structure Lp (w wz W : World) (rv zv : Value) (kA : Option Addr) (kc : Nat) (K : List KV) : Prop where
  bel : Below w.heap.size w W
  kx : KX wz.heap.size (w.heap.size + 1 + 1) wz W
  box : Blk W (w.heap.size + 1 + 1) 32 #[rv, zv, .slice kA K.length kc, .slice none 0 0]
  row : RowOf W wz.heap.size 94 2 KV.cells kA kc K
/-- the same while the links' region draws; b: the link is appended -/
structure Lm (w wz W : World) (rv zv : Value) (kA : Option Addr) (kc : Nat) (K : List KV) (b : Bool) (W0 : World) : Prop where
  bel : Below w.heap.size w W
  kx : KX wz.heap.size (w.heap.size + 1 + 1) wz W
  own : ∃ v, Blk W (w.heap.size + 1 + 1) 32 #[rv, zv, v, .slice none 0 0] ∧ (b = false → v = .slice kA K.length kc)
  le : W0.heap.size ≤ W.heap.size
  ahead : b = false → RowOf W wz.heap.size 94 2 KV.cells kA kc K ∧ Below W0.heap.size W0 W
section
variable {w wz W W' W0 : World} {rv zv : Value} {kA : Option Addr} {kc : Nat} {K : List KV}
theorem Lp.below (h : Lp w wz W rv zv kA kc K) (hb : Below W.heap.size W W') : Lp w wz W' rv zv kA kc K := ⟨h.bel.trans (hb.mono h.bel.size), h.kx.below hb, h.box.below hb h.box.lt, h.row.below hb⟩
theorem Lm.below {b : Bool} (h : Lm w wz W rv zv kA kc K b W0) (hb : Below W.heap.size W W') : Lm w wz W' rv zv kA kc K b W0 :=
  ⟨h.bel.trans (hb.mono h.bel.size), h.kx.below hb, by obtain ⟨v, h1, h2⟩ := h.own; exact ⟨v, h1.below hb h1.lt, h2⟩, Nat.le_trans h.le hb.size, fun q => ⟨(h.ahead q).1.below hb, (h.ahead q).2.trans (hb.mono h.le)⟩⟩
theorem Lm.grown (h : Lm w wz W rv zv kA kc K false W0) (hw : w.heap.size ≤ wz.heap.size) (hz : RowOf W wz.heap.size 94 2 KV.cells kA kc K) (hgr : W.grownBy W' (Value.slice kA K.length kc).ownBlock) : Lm w wz W' rv zv kA kc K true W0 :=
  ⟨own_grown h.bel hz hgr h.bel.size hw, h.kx.grown hz hgr (Nat.le_refl _), by obtain ⟨v, h1, h2⟩ := h.own; exact ⟨v, blk_other h1 hz (by decide) hgr, fun q => by cases q⟩, Nat.le_trans h.le hgr.size, fun q => by cases q⟩
end

end Go.Proofs.YtlideagcmhlkeaaDoor

/- The law on regions that draw their order once more: what is kept may speak of the slots that are made. No function of the program. -/
namespace Go.Proofs.YtlideagcmhlkeaaDoor
open Go
set_option linter.unusedVariables false

section
variable {P : Program} {ops : Array Oper} {Q : Exit → Act → World → Prop}
/-- a step of the law: operation i alone -/
def StepOkY (P : Program) (ops : Array Oper) (Q : Exit → Act → World → Prop) (fr : (Nat → Value) → Act) (sh : List (Option Nat × List Nat)) (sp : Nat → Bool) (vals : List Value) (X : Nat → (Nat → Value) → World → Prop) (G : World → World → Prop) (S : (Nat → Value) → World → Prop) (i : Nat) (o : Oper) : Prop :=
  ∀ y w, S y w → (∀ d, (sdeps sh i).contains d = true → LeftS sh (valOf sp vals) X d y w) →
    ∀ K' : Act → World → Prop, Shut (∀ v a' w', a' = (fr y).put o.dst v → G w w' → S (upd y o.dst v) w' → (valOf sp vals i = some v ∨ (valOf sp vals i = none ∧ X i (upd y o.dst v) w')) → K' a' w') →
      if Region.wanted o (yielded ops (fr y).tmps) = true then Oper.wp P o (fr y) w K' Q else K' ((fr y).put o.dst undef) w
def StepsOkY (P : Program) (ops : Array Oper) (Q : Exit → Act → World → Prop) (fr : (Nat → Value) → Act) (sh : List (Option Nat × List Nat)) (sp : Nat → Bool) (vals : List Value) (X : Nat → (Nat → Value) → World → Prop) (G : World → World → Prop) (S : (Nat → Value) → World → Prop) (i : Nat) (l : List Oper) : Prop :=
  ∀ k o, l[k]? = some o → StepOkY P ops Q fr sh sp vals X G S (i + k) o
section
variable {fr : (Nat → Value) → Act} {sh : List (Option Nat × List Nat)} {sp : Nat → Bool} {vals : List Value} {X : Nat → (Nat → Value) → World → Prop} {G : World → World → Prop} {S : (Nat → Value) → World → Prop}
theorem StepsOkY.nil {i : Nat} : StepsOkY P ops Q fr sh sp vals X G S i [] := fun k o h => by simp at h
theorem StepsOkY.cons {i : Nat} {o : Oper} {l : List Oper} (h : StepOkY P ops Q fr sh sp vals X G S i o) (hl : StepsOkY P ops Q fr sh sp vals X G S (i + 1) l) : StepsOkY P ops Q fr sh sp vals X G S i (o :: l) := fun k o' ho => by
  cases k with
  | zero => rw [List.getElem?_cons_zero] at ho; injection ho with ho; subst ho; exact h
  | succ k =>
    rw [List.getElem?_cons_succ] at ho
    have := hl k o' ho
    rwa [show i + 1 + k = i + (k + 1) by omega] at this
/-- a step whose value is known ahead -/
theorem StepOkY.known {i : Nat} {o : Oper} (hi : sp i = false) (h : ∀ y w, S y w → (∀ d, (sdeps sh i).contains d = true → LeftS sh (valOf sp vals) X d y w) →
    ∀ K' : Act → World → Prop, Shut (∀ a' w', a' = (fr y).put o.dst (vals.getD i undef) → G w w' → S (upd y o.dst (vals.getD i undef)) w' → K' a' w') →
      if Region.wanted o (yielded ops (fr y).tmps) = true then Oper.wp P o (fr y) w K' Q else K' ((fr y).put o.dst undef) w) : StepOkY P ops Q fr sh sp vals X G S i o :=
  fun y w hS hd K' hK => h y w hS hd K' fun a' w' ha hG hS' => hK _ a' w' ha hG hS' (.inl (by unfold valOf; rw [if_neg (by rw [hi]; decide)]))
/-- a step whose value is not known ahead -/
theorem StepOkY.other {i : Nat} {o : Oper} (hi : sp i = true) (h : ∀ y w, S y w → (∀ d, (sdeps sh i).contains d = true → LeftS sh (valOf sp vals) X d y w) →
    ∀ K' : Act → World → Prop, Shut (∀ v a' w', a' = (fr y).put o.dst v → G w w' → S (upd y o.dst v) w' → X i (upd y o.dst v) w' → K' a' w') →
      if Region.wanted o (yielded ops (fr y).tmps) = true then Oper.wp P o (fr y) w K' Q else K' ((fr y).put o.dst undef) w) : StepOkY P ops Q fr sh sp vals X G S i o :=
  fun y w hS hd K' hK => h y w hS hd K' fun v a' w' ha hG hS' hx => hK v a' w' ha hG hS' (.inr ⟨by unfold valOf; rw [if_pos hi], hx⟩)
end
end
end Go.Proofs.YtlideagcmhlkeaaDoor

/- Two boxes of eras that one drawn region makes and writes, whichever comes first (for ExpandAbbrs). No function of the program. -/
namespace Go.Proofs.YtlideagcmhlkeaaDoor
open Go.RowKit
set_option linter.unusedVariables false

/-- where the region stands: what slots 10 and 11 point to -/
structure Two (wi : World) (f : EV) (y : Nat → Value) (W : World) : Prop where
  bel : Below wi.heap.size wi W
  a : ∀ g, y 10 = .pointer (some ⟨g, 0, none⟩) → wi.heap.size ≤ g → ∃ cs : Array Value, cs.size = 13 ∧ Blk W g 47 cs
  b : ∀ g, y 11 = .pointer (some ⟨g, 0, none⟩) → wi.heap.size ≤ g → Blk W g 47 #[.int .i64 0, .int .i64 0, .int .i64 0, .string ⟨#[]⟩, .string ⟨#[]⟩, .bool false, .int .i64 0, .int .i64 0, .int .i64 0, .int .i64 0, .int .i64 0, .int .i64 0, .int .i64 0] ∨ Blk W g 47 #[.int .i64 f.off, .int .i64 f.kind, .int .i64 f.save, .string f.set, .string f.fmt, .bool f.ui, .int .i64 f.uy, .int .i64 f.um, .int .i64 f.dk, .int .i64 f.dw, .int .i64 f.dd, .int .i64 f.asec, .int .i64 f.ab]
  c : ∀ g g', y 10 = .pointer (some ⟨g, 0, none⟩) → y 11 = .pointer (some ⟨g', 0, none⟩) → wi.heap.size ≤ g → wi.heap.size ≤ g' → g ≠ g'
/-- boxes that hold the era keep it -/
def GC (e : EV) (W W' : World) : Prop := ∀ g, Blk W g 47 #[.int .i64 e.off, .int .i64 e.kind, .int .i64 e.save, .string e.set, .string e.fmt, .bool e.ui, .int .i64 e.uy, .int .i64 e.um, .int .i64 e.dk, .int .i64 e.dw, .int .i64 e.dd, .int .i64 e.asec, .int .i64 e.ab] → Blk W' g 47 #[.int .i64 e.off, .int .i64 e.kind, .int .i64 e.save, .string e.set, .string e.fmt, .bool e.ui, .int .i64 e.uy, .int .i64 e.um, .int .i64 e.dk, .int .i64 e.dw, .int .i64 e.dd, .int .i64 e.asec, .int .i64 e.ab]
section
variable {wi W : World} {e f : EV} {y : Nat → Value}
theorem GC.refl (e : EV) (W : World) : GC e W W := fun _ h => h
theorem Two.u (h : Two wi f y W) {d : Nat} {v : Value} (h1 : 10 ≠ d) (h2 : 11 ≠ d) : Two wi f (upd y (some d) v) W :=
  ⟨h.bel, fun g hg => h.a g (by rw [← hg]; show y 10 = if 10 = d then v else y 10; rw [if_neg h1]), fun g hg => h.b g (by rw [← hg]; show y 11 = if 11 = d then v else y 11; rw [if_neg h2]), fun g g' hg hg' => h.c g g' (by rw [← hg]; show y 10 = if 10 = d then v else y 10; rw [if_neg h1]) (by rw [← hg']; show y 11 = if 11 = d then v else y 11; rw [if_neg h2])⟩
theorem GC.alloc (e : EV) (W : World) (ob : Obj) : GC e W (W.alloc ob) := fun g h => h.alloc ob
end
end Go.Proofs.YtlideagcmhlkeaaDoor

/- What the steps of a drawn region keep that makes a box of one type (two cells) and writes it. No function of the program. -/
namespace Go.Proofs.YtlideagcmhlkeaaDoor
open Go.RowKit
set_option linter.unusedVariables false

/-- blocks that are no boxes of the type stay; boxes of the type stay boxes of the type -/
structure G2 (B : TypeId) (W W' : World) : Prop where
  far : ∀ (g : Nat) (e : TypeId) (cur : Array Value), e ≠ B → Blk W g e cur → Blk W' g e cur
  own : ∀ g, (∃ a b, Blk W g B #[a, b]) → ∃ a b, Blk W' g B #[a, b]
section
variable {B : TypeId} {W W' : World}
theorem G2.refl (B : TypeId) (W : World) : G2 B W W := ⟨fun _ _ _ _ h => h, fun _ h => h⟩
theorem G2.below (h : Below W.heap.size W W') : G2 B W W' := ⟨fun g e cur _ hb => hb.below h hb.lt, fun g ⟨a, b, hb⟩ => ⟨a, b, hb.below h hb.lt⟩⟩
theorem G2.alloc (B : TypeId) (W : World) (ob : Obj) : G2 B W (W.alloc ob) := G2.below ((Below.refl _ W).alloc (Nat.le_refl _) ob)
theorem G2.trans {A C : World} (h : G2 B A W) (k : G2 B W C) : G2 B A C := ⟨fun g e cur he hb => k.far g e cur he (h.far g e cur he hb), fun g hb => k.own g (h.own g hb)⟩
theorem G2.set_ {g : Nat} {a b : Value} (hb : Blk W g B #[a, b]) (n : Nat) (u : Value) : G2 B W (W.setCell ⟨g, n, none⟩ u) := by
  refine ⟨fun g' e cur he h' => h'.far (p := ⟨g, n, none⟩) (fun q => he ?_) u, fun g' ⟨a', b', hb'⟩ => ?_⟩
  · have q' : g' = g := q
    subst q'
    unfold Blk at hb h'
    rw [hb] at h'
    injection h' with h'
    injection h' with _ h' _
    exact h'.symm
  · by_cases q : g' = g
    · subst q
      have := hb.set_ n u
      match n with
      | 0 | 1 => exact ⟨_, _, this⟩
      | n + 2 =>
        rw [Array.setIfInBounds, dif_neg (by simp)] at this
        exact ⟨_, _, this⟩
    · exact ⟨a', b', hb'.far q u⟩
end
end Go.Proofs.YtlideagcmhlkeaaDoor

/- What the rows' list of variables, and the world's shape, give the walks of chapters 21 and 24. -/
namespace Go.Proofs.YtlideagcmhlkeaaDoor
open Go.RowKit
set_option linter.unusedVariables false

theorem tSyn : (Tryd.prog.globals[3]?).map (·.type) = some 161 := by kernel_rfl
theorem cErr : Tryd.prog.cellsOf 219 = 1 := by kernel_rfl
theorem cStr : Tryd.prog.cellsOf 9 = 1 := by kernel_rfl
theorem starErr : "*" ++ "errors.errorString" = "*errors.errorString" := by decide
theorem rowErr (u : TypeId) (h : Tryd.prog.typeName? 3 u = some "*errors.errorString") : u = 217 := by
  exact typeName_ptr_named (nm := "errors.errorString") (by rw [starErr]; kernel_rfl) (by kernel_rfl) (by decide) u (by rw [starErr]; exact h)
theorem vars21_of {W : World} {rest : List (String × DataW Unit)} (h4 : laidMet Tryd.prog (("strconv.ErrSyntax", Rows.laid_strconv_ErrSyntax) :: rest) W) (hsh : W.ShapedOpen Tryd.prog) : Vars21 W := by
  obtain ⟨a, s, hs, _, _, _⟩ := laid_sentinel h4 gSyn tSyn Tryd.underlying161 rowErr Tryd.underlying217 Tryd.underlying219 rfl rfl Tryd.underlying9 cErr cStr
  have lt : ∀ {g : Nat} {n : String} {cs : Array Value}, Tryd.prog.globalNamed n = some g → W.var? Tryd.prog n = some cs → g < W.heap.size := by
    intro g n cs hg hv
    unfold World.var? at hv
    simp only [hg, Option.bind_some] at hv
    rcases Nat.lt_or_ge g W.heap.size with q | q
    · exact q
    · rw [Array.getElem?_eq_none q] at hv; cases hv
  have hm := Tryd.laysM145.s1_3 W hsh
  have hlt : 1 < W.heap.size := by
    obtain ⟨m, hm⟩ := hm
    rcases Nat.lt_or_ge 1 W.heap.size with q | q
    · exact q
    · exfalso
      have hm' : W.cell? ⟨1, 0, none⟩ = some (.int .i64 m) := hm
      unfold World.cell? at hm'
      rw [Array.getElem?_eq_none q] at hm'
      cases hm'
  exact ⟨⟨⟨_, _, hs⟩, lt gSyn hs⟩, hm, hlt⟩
/-- four other variables stand ahead of it in the row's list -/
theorem vars21_of_laid {W : World} {a b c d : String × DataW Unit} {rest : List (String × DataW Unit)} (h : laidMet Tryd.prog (a :: b :: c :: d :: ("strconv.ErrSyntax", Rows.laid_strconv_ErrSyntax) :: rest) W) (hsh : W.ShapedOpen Tryd.prog) : Vars21 W := by
  exact vars21_of h.tail.tail.tail.tail hsh
end Go.Proofs.YtlideagcmhlkeaaDoor

/- What the rows' list of variables gives the walks of chapter 30 that make sources of layer 23. -/
namespace Go.Proofs.YtlideagcmhlkeaaDoor
open Go.RowKit
set_option linter.unusedVariables false

end Go.Proofs.YtlideagcmhlkeaaDoor
