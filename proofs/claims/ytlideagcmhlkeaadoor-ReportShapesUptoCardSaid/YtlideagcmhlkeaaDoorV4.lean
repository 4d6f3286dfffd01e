/- Texts of one proof, one behind the other: Ex32; Shp32b; Laid32; B32; Upto. -/
import Derived.Test.YtlideagcmhlkeaaDoorV3
import Derived.Test.YtlideagcmhlkeaaDoorRows
import Derived.Lib.LaidTab
import Derived.Stop.LaidErr
import Derived.OpenShut
import Derived.ChangeArms
import Derived.LaidMore
import Derived.LaidLaws
import Derived.Deep.DeepHandedRow
import Derived.Stop.Joined

/- The examples of chapter 32. -/
namespace Go.Proofs.YtlideagcmhlkeaaDoor
open Go.RowKit
set_option linter.unusedVariables false

theorem flat_get {α : Type} {f : α → List Value} {m : Nat} (hf : ∀ a, (f a).length = m) : ∀ (l : List α) (k j : Nat) (x : α), j < m → l[k]? = some x → (l.flatMap f)[k * m + j]? = (f x)[j]?
  | [], k, j, x, _, h => by simp at h
  | a :: l, 0, j, x, hj, h => by
    simp only [List.getElem?_cons_zero, Option.some.injEq] at h
    subst h
    rw [List.flatMap_cons, Nat.zero_mul, Nat.zero_add, List.getElem?_append_left (by rw [hf]; exact hj)]
  | a :: l, k + 1, j, x, hj, h => by
    simp only [List.getElem?_cons_succ] at h
    rw [List.flatMap_cons, List.getElem?_append_right (by rw [hf, Nat.succ_mul]; omega), hf, show (k + 1) * m + j - m = k * m + j by rw [Nat.succ_mul]; omega]
    exact flat_get hf l k j x hj h
/-- a block that holds these elements one by one -/
theorem cells_of {α : Type} {f : α → List Value} {m : Nat} (hf : ∀ a, (f a).length = m) {w : World} {g : Nat} {t : TypeId} {L : List α} (h : Blk w g t (L.flatMap f).toArray) : CellsIn m f w (some ⟨g, 0, none⟩) L := by
  intro k r hr
  refine ⟨g, 0, rfl, h.lt, fun j u hu => ?_⟩
  rw [h.cell, List.getElem?_toArray, Nat.zero_add, flat_get hf L k j r (by have := (List.getElem?_eq_some_iff.mp hu).1; rwa [hf] at this) hr]
  exact hu
theorem cmp_ok {a b : SV} {w : World} (l : List P32.CV) (hA : SrcIn w a) (hB : SrcIn w b) (hfa : few a) (hzb : SrcSz b) (hok : P32.okS a b) (hl : P32.chS a b = l) :
    Calls Tryd.prog 42 #[.agg #[.slice a.rA a.rules.length a.rc, .slice a.zA a.zones.length a.zc, .slice a.kA a.links.length a.kc, .slice a.hA a.shifts.length a.hc], .agg #[.slice b.rA b.rules.length b.rc, .slice b.zA b.zones.length b.zc, .slice b.kA b.links.length b.kc, .slice b.hA b.shifts.length b.hc]] w fun e w' => ∃ A c, e = .returned (.tuple #[.slice A l.length c, .int .i64 0]) ∧ ChIn w' A l ∧ Below w.heap.size w w' := by
  subst hl
  refine (compare_any a b w hA hB hfa hzb).mono ?_
  rintro e w' (⟨_, ⟨A, c, h1, h2⟩, h3⟩ | ⟨h1, _⟩)
  · exact ⟨A, c, h1, h2, h3⟩
  · exact absurd hok h1
theorem cmp_no {a b : SV} {w : World} (hA : SrcIn w a) (hB : SrcIn w b) (hfa : few a) (hzb : SrcSz b) (hno : ¬ P32.okS a b) :
    Calls Tryd.prog 42 #[.agg #[.slice a.rA a.rules.length a.rc, .slice a.zA a.zones.length a.zc, .slice a.kA a.links.length a.kc, .slice a.hA a.shifts.length a.hc], .agg #[.slice b.rA b.rules.length b.rc, .slice b.zA b.zones.length b.zc, .slice b.kA b.links.length b.kc, .slice b.hA b.shifts.length b.hc]] w fun e w' => e = .returned (.tuple #[.slice none 0 0, .int .i64 2]) ∧ Below w.heap.size w w' := by
  refine (compare_any a b w hA hB hfa hzb).mono ?_
  rintro e w' (⟨h1, _⟩ | ⟨_, h2, h3⟩)
  · exact absurd h1 hno
  · exact ⟨h2, h3⟩
/-- the sources of the examples; where their parts lie is open -/
def ra1 : RV := ⟨⟨#[82]⟩, 0, 0, 0, 0, 0, 0, 3600, 1, (-3600), ⟨#[]⟩⟩
def rb1 : RV := ⟨⟨#[82]⟩, 0, 0, 0, 0, 0, 0, 0, 1, 0, ⟨#[]⟩⟩
def rs : RV := ⟨⟨#[82]⟩, 0, 0, 0, 0, 0, 0, 0, 0, 0, ⟨#[83]⟩⟩
def rn : RV := ⟨⟨#[82]⟩, 0, 0, 0, 0, 0, 0, 0, 0, 0, ⟨#[]⟩⟩
def ea : List EV := [⟨3600, 2, 0, ⟨#[82]⟩, ⟨#[73, 83, 84, 47, 71, 77, 84]⟩, false, 0, 0, 0, 0, 0, 0, 0⟩, ⟨0, 0, 0, ⟨#[]⟩, ⟨#[]⟩, true, 1950, 1, 1, 0, 1, 3600, 1⟩]
def eb : List EV := [⟨0, 2, 0, ⟨#[82]⟩, ⟨#[71, 77, 84, 47, 73, 83, 84]⟩, false, 0, 0, 0, 0, 0, 0, 0⟩, ⟨0, 0, 0, ⟨#[]⟩, ⟨#[]⟩, true, 1950, 1, 1, 0, 1, 0, 1⟩]
def exS (r z k : Nat) (ru : RV) (es : List EV) : SV := ⟨some ⟨r, 0, none⟩, 1, [ru], some ⟨z, 0, none⟩, 1, [⟨(⟨#[90]⟩ : ByteArray), some ⟨k, 0, none⟩, 2, es⟩], none, 0, [], none, 0, []⟩
def exR (r : Nat) (ru : RV) : SV := ⟨some ⟨r, 0, none⟩, 1, [ru], none, 0, [], none, 0, [], none, 0, []⟩
def exZ (z : Nat) (nm : ByteArray) : SV := ⟨none, 0, [], some ⟨z, 0, none⟩, 1, [⟨nm, none, 0, []⟩], none, 0, [], none, 0, []⟩
theorem rv_len (r : RV) : r.cells.length = 11 := rfl
theorem ev_len (r : EV) : r.cells.length = 13 := rfl
theorem zv_len (r : ZV) : r.cells.length = 2 := rfl
theorem cv_len (r : P32.CV) : r.cells.length = 4 := rfl
theorem exS_in {w : World} {r z k : Nat} {ru : RV} {es : List EV} {t1 t2 t3 : TypeId} (he : es.length = 2) (h1 : Blk w r t1 ([ru].flatMap RV.cells).toArray) (h2 : Blk w z t2 #[.string (⟨#[90]⟩ : ByteArray), .slice (some ⟨k, 0, none⟩) 2 2]) (h3 : Blk w k t3 (es.flatMap EV.cells).toArray) : SrcIn w (exS r z k ru es) := by
  refine ⟨cells_of rv_len h1, ?_, CellsIn.nil _ _, CellsIn.nil _ _, ?_⟩
  · refine cells_of (L := [(⟨(⟨#[90]⟩ : ByteArray), some ⟨k, 0, none⟩, 2, es⟩ : ZV)]) (t := t2) zv_len ?_
    show Blk w z t2 #[.string (⟨#[90]⟩ : ByteArray), .slice (some ⟨k, 0, none⟩) es.length 2]
    rw [he]; exact h2
  · intro y hy
    rw [exS, List.mem_singleton] at hy
    subst hy
    exact cells_of ev_len h3
theorem exR_in {w : World} {r : Nat} {ru : RV} {t1 : TypeId} (h1 : Blk w r t1 ([ru].flatMap RV.cells).toArray) : SrcIn w (exR r ru) :=
  ⟨cells_of rv_len h1, CellsIn.nil _ _, CellsIn.nil _ _, CellsIn.nil _ _, fun z hz => by simp [exR] at hz⟩
theorem exZ_in {w : World} {z : Nat} {nm : ByteArray} {t : TypeId} (h : Blk w z t #[.string nm, .slice none 0 0]) : SrcIn w (exZ z nm) := by
  refine ⟨CellsIn.nil _ _, cells_of (L := [(⟨nm, none, 0, []⟩ : ZV)]) (t := t) zv_len h, CellsIn.nil _ _, CellsIn.nil _ _, ?_⟩
  intro y hy
  rw [exZ, List.mem_singleton] at hy
  subst hy
  exact CellsIn.nil _ _
theorem exS_few (r z k : Nat) (ru : RV) (es : List EV) (he : es.length = 2) : few (exS r z k ru es) ∧ SrcSz (exS r z k ru es) := by
  have hm : (2 : Nat) ≤ maxLen := by decide
  constructor
  · refine ⟨by simp [exS], by simp [exS], by simp [exS], by simp [exS], fun y hy => ?_⟩
    rw [exS, List.mem_singleton] at hy
    subst hy
    show es.length ≤ 20
    omega
  · refine ⟨by simp [exS]; omega, by simp [exS]; omega, by simp [exS], by simp [exS], fun y hy => ?_⟩
    rw [exS, List.mem_singleton] at hy
    subst hy
    show es.length ≤ maxLen
    omega
theorem exR_few (r : Nat) (ru : RV) : few (exR r ru) ∧ SrcSz (exR r ru) := by
  have hm : (2 : Nat) ≤ maxLen := by decide
  exact ⟨⟨by simp [exR], by simp [exR], by simp [exR], by simp [exR], fun y hy => by simp [exR] at hy⟩, ⟨by simp [exR]; omega, by simp [exR], by simp [exR], by simp [exR], fun y hy => by simp [exR] at hy⟩⟩
theorem exZ_few (z : Nat) (nm : ByteArray) : few (exZ z nm) ∧ SrcSz (exZ z nm) := by
  have hm : (2 : Nat) ≤ maxLen := by decide
  constructor
  · refine ⟨by simp [exZ], by simp [exZ], by simp [exZ], by simp [exZ], fun y hy => ?_⟩
    rw [exZ, List.mem_singleton] at hy
    subst hy
    simp
  · refine ⟨by simp [exZ], by simp [exZ]; omega, by simp [exZ], by simp [exZ], fun y hy => ?_⟩
    rw [exZ, List.mem_singleton] at hy
    subst hy
    simp
def exL : List P32.CV := [⟨1, 0, 0, 3⟩, ⟨2, 0, 0, 12⟩, ⟨2, 0, 1, 16⟩]
theorem one_at {α : Type} {x : α} {i : Nat} {a : α} (h : [x][i]? = some a) : i = 0 ∧ a = x := by
  match i, h with
  | 0, h => simp at h; exact ⟨rfl, h.symm⟩
theorem ex_ab (r z k r' z' k' : Nat) : P32.okS (exS r z k ra1 ea) (exS r' z' k' rb1 eb) ∧ P32.chS (exS r z k ra1 ea) (exS r' z' k' rb1 eb) = exL := by
  constructor
  · refine ⟨⟨rfl, fun i a b hi ha hb => ?_⟩, rfl, fun i x y hi hx hy => ?_, rfl⟩
    · obtain ⟨rfl, rfl⟩ := one_at ha
      obtain ⟨_, rfl⟩ := one_at hb
      decide +kernel
    · obtain ⟨rfl, rfl⟩ := one_at hx
      obtain ⟨_, rfl⟩ := one_at hy
      refine ⟨rfl, rfl, fun j p q hj hp hq => ?_⟩
      have key : ∀ j < 2, ∀ p ∈ ea[j]?, ∀ q ∈ eb[j]?, P32.sameE p q = true := by decide +kernel
      exact key j hj p hp q hq
  · show P32.ch P32.diffR P32.mkR [ra1] [rb1] 1 ++ ([] ++ P32.ch P32.diffE (P32.mkE 0) ea eb 2) = exL
    decide +kernel
theorem ex_aa (r z k r' z' k' : Nat) : P32.okS (exS r z k ra1 ea) (exS r' z' k' ra1 ea) ∧ P32.chS (exS r z k ra1 ea) (exS r' z' k' ra1 ea) = [] := by
  constructor
  · refine ⟨⟨rfl, fun i a b hi ha hb => ?_⟩, rfl, fun i x y hi hx hy => ?_, rfl⟩
    · obtain ⟨rfl, rfl⟩ := one_at ha
      obtain ⟨_, rfl⟩ := one_at hb
      decide +kernel
    · obtain ⟨rfl, rfl⟩ := one_at hx
      obtain ⟨_, rfl⟩ := one_at hy
      refine ⟨rfl, rfl, fun j p q hj hp hq => ?_⟩
      have key : ∀ j < 2, ∀ p ∈ ea[j]?, ∀ q ∈ ea[j]?, P32.sameE p q = true := by decide +kernel
      exact key j hj p hp q hq
  · show P32.ch P32.diffR P32.mkR [ra1] [ra1] 1 ++ ([] ++ P32.ch P32.diffE (P32.mkE 0) ea ea 2) = []
    decide +kernel
theorem ex_letters (r r' : Nat) : ¬ P32.okS (exR r rs) (exR r' rn) := fun q => by
  have := q.1.2 0 rs rn (show 0 < 1 by decide) rfl rfl
  revert this
  decide +kernel
theorem ex_zones (z z' : Nat) : ¬ P32.okS (exZ z ⟨#[65]⟩) (exZ z' ⟨#[66]⟩) := fun q => by
  have := (q.2.2.1 0 _ _ (show 0 < 1 by decide) rfl rfl).1
  revert this
  decide
theorem calls_gen {P : Program} {f : FuncId} {args : Array Value} {w : World} {post : Ending → World → Prop} (Φ : World → Prop) (h : Φ w) (k : ∀ W, Φ W → Calls P f args W post) : Calls P f args w post := k w h
theorem text_two : P32.text [⟨1, 0, 0, 3⟩, ⟨2, 0, 0, 12⟩] = ([114, 117, 108, 101, 32, 48, 32, 115, 97, 118, 101, 32, 97, 116, 10, 101, 114, 97, 32, 48, 32, 48, 32, 111, 102, 102, 32, 102, 111, 114, 109, 97, 116, 10], 0) := by
  rw [text_ok (by intro c hc; simp only [List.mem_cons, List.not_mem_nil, or_false] at hc; rcases hc with rfl | rfl <;> decide)]
  have d : Lib.decDigits 0 = [48] := by rw [Lib.decDigits, dif_pos (by decide)]; rfl
  simp only [List.flatMap_cons, List.flatMap_nil, P32.line, P32.lineR, P32.lineE, Int.toNat_zero, d]
  decide +kernel
theorem text_bad (x : Int) (h : ¬ P32.right ⟨1, 0, 0, x⟩) : P32.text [⟨1, 0, 0, x⟩] = ([], 2) := if_neg (fun q => h (q _ (List.mem_singleton.2 rfl)))
theorem CellsIn.take {α : Type} {m : Nat} {f : α → List Value} {w : World} {A : Option Addr} {L : List α} (h : CellsIn m f w A L) (n : Nat) : CellsIn m f w A (L.take n) := by
  intro k r hr
  refine h k r ?_
  rw [List.getElem?_take] at hr
  split at hr
  · exact hr
  · cases hr

set_option maxRecDepth 100000 in
set_option maxHeartbeats 16000000 in
theorem works32_any (w : World) (hv : Vars w) : Calls Tryd.prog 40 #[] w fun e w' => e = .returned (.bool true) ∧ Below w.heap.size w w' := by
  go_enter Tryd.func40, Tryd.ntmps40
  go_wp2_with fail
  refine calls_gen (fun W => Blk W (w.heap.size + 2) 83 ([ra1].flatMap RV.cells).toArray ∧ Blk W (w.heap.size + 3) 47 (ea.flatMap EV.cells).toArray ∧ Blk W (w.heap.size + 4) 39 #[.string ⟨#[90]⟩, .slice (some ⟨w.heap.size + 3, 0, none⟩) 2 2] ∧ Blk W (w.heap.size + 5) 32 #[.slice (some ⟨w.heap.size + 2, 0, none⟩) 1 1, .slice (some ⟨w.heap.size + 4, 0, none⟩) 1 1, .slice none 0 0, .slice none 0 0] ∧ Blk W (w.heap.size + 6) 83 ([rb1].flatMap RV.cells).toArray ∧ Blk W (w.heap.size + 7) 47 (eb.flatMap EV.cells).toArray ∧ Blk W (w.heap.size + 8) 39 #[.string ⟨#[90]⟩, .slice (some ⟨w.heap.size + 7, 0, none⟩) 2 2] ∧ Below w.heap.size w W) ?_ ?_
  · exact ⟨(((((((Blk.newAt _ (w.heap.size + 2) (by simp) _ _).alloc _).alloc _).alloc _).alloc _).alloc _).alloc _).alloc _, ((((((Blk.newAt _ (w.heap.size + 3) (by simp) _ _).alloc _).alloc _).alloc _).alloc _).alloc _).alloc _, (((((Blk.newAt _ (w.heap.size + 4) (by simp) _ _).alloc _).alloc _).alloc _).alloc _).alloc _, ((((Blk.newAt _ (w.heap.size + 5) (by simp) _ _).alloc _).alloc _).alloc _).alloc _, (((Blk.newAt _ (w.heap.size + 6) (by simp) _ _).alloc _).alloc _).alloc _, ((Blk.newAt _ (w.heap.size + 7) (by simp) _ _).alloc _).alloc _, (Blk.newAt _ (w.heap.size + 8) (by simp) _ _).alloc _, ((((((((((Below.refl w.heap.size w).alloc (Nat.le_refl _) _).alloc (by simp <;> omega) _).alloc (by simp <;> omega) _).alloc (by simp <;> omega) _).alloc (by simp <;> omega) _).alloc (by simp <;> omega) _).alloc (by simp <;> omega) _).alloc (by simp <;> omega) _).alloc (by simp <;> omega) _).alloc (by simp <;> omega) _⟩
  rintro W ⟨hb2, hb3, hb4, hb5, hb6, hb7, hb8, hb0⟩
  refine (cmp_ok exL (exS_in (r := w.heap.size + 2) (z := w.heap.size + 4) (k := w.heap.size + 3) (ru := ra1) (es := ea) rfl hb2 hb4 hb3) (exS_in (r := w.heap.size + 6) (z := w.heap.size + 8) (k := w.heap.size + 7) (ru := rb1) (es := eb) rfl hb6 hb8 hb7) (exS_few _ _ _ _ _ rfl).1 (exS_few _ _ _ _ _ rfl).2 (ex_ab _ _ _ _ _ _).1 (ex_ab _ _ _ _ _ _).2).mono ?_
  rintro e w1 ⟨A, c, rfl, hl, hc⟩
  have HB2 := Lib.hid (hb2.below hc hb2.lt)
  have HB3 := Lib.hid (hb3.below hc hb3.lt)
  have HB4 := Lib.hid (hb4.below hc hb4.lt)
  have HB5 := Lib.hid (hb5.below hc hb5.lt)
  have HW1 := Lib.hid (hb0.trans (hc.mono hb0.size))
  have HL := Lib.hid hl
  clear hl hc hb0 hb2 hb3 hb4 hb5 hb6 hb7 hb8
  go_wp2_with fail
  have HWN := Lib.hid (show CellsIn 4 P32.CV.cells (w1.alloc (.cells #[.int .i64 1, .int .i64 0, .int .i64 0, .int .i64 3, .int .i64 2, .int .i64 0, .int .i64 0, .int .i64 12, .int .i64 2, .int .i64 0, .int .i64 1, .int .i64 16] 87)) (some ⟨w1.heap.size, 0, none⟩) exL from cells_of (t := 87) cv_len (Blk.new w1 87 #[.int .i64 1, .int .i64 0, .int .i64 0, .int .i64 3, .int .i64 2, .int .i64 0, .int .i64 0, .int .i64 12, .int .i64 2, .int .i64 0, .int .i64 1, .int .i64 16]))
  have hb1 := HW1.out.alloc HW1.out.size (.cells #[.int .i64 1, .int .i64 0, .int .i64 0, .int .i64 3, .int .i64 2, .int .i64 0, .int .i64 0, .int .i64 12, .int .i64 2, .int .i64 0, .int .i64 1, .int .i64 16] 87)
  have cT : Hid (Calls Tryd.prog 71 #[.slice (some ⟨w1.heap.size, 0, none⟩) 2 3] (w1.alloc (.cells #[.int .i64 1, .int .i64 0, .int .i64 0, .int .i64 3, .int .i64 2, .int .i64 0, .int .i64 0, .int .i64 12, .int .i64 2, .int .i64 0, .int .i64 1, .int .i64 16] 87)) fun e w' => e = .returned (.tuple #[.string ⟨#[114, 117, 108, 101, 32, 48, 32, 115, 97, 118, 101, 32, 97, 116, 10, 101, 114, 97, 32, 48, 32, 48, 32, 111, 102, 102, 32, 102, 111, 114, 109, 97, 116, 10]⟩, .int .i64 0]) ∧ Below (w1.alloc (.cells #[.int .i64 1, .int .i64 0, .int .i64 0, .int .i64 3, .int .i64 2, .int .i64 0, .int .i64 0, .int .i64 12, .int .i64 2, .int .i64 0, .int .i64 1, .int .i64 16] 87)).heap.size (w1.alloc (.cells #[.int .i64 1, .int .i64 0, .int .i64 0, .int .i64 3, .int .i64 2, .int .i64 0, .int .i64 0, .int .i64 12, .int .i64 2, .int .i64 0, .int .i64 1, .int .i64 16] 87)) w') := Lib.hid (by
    have q := rep_text (some ⟨w1.heap.size, 0, none⟩) 3 [⟨1, 0, 0, 3⟩, ⟨2, 0, 0, 12⟩] _ (by decide) (HWN.out.take 2) (by intro c hc; simp only [List.mem_cons, List.not_mem_nil, or_false] at hc; rcases hc with rfl | rfl <;> decide) (hv.below hb1)
    rw [text_two] at q
    exact q)
  refine cT.out.mono ?_
  rintro e w2 ⟨rfl, hc⟩
  have hb2 := hb1.trans (hc.mono hb1.size)
  have hd : Below w1.heap.size w1 w2 := ((Below.refl w1.heap.size w1).alloc (Nat.le_refl _) (.cells #[.int .i64 1, .int .i64 0, .int .i64 0, .int .i64 3, .int .i64 2, .int .i64 0, .int .i64 0, .int .i64 12, .int .i64 2, .int .i64 0, .int .i64 1, .int .i64 16] 87)).trans (hc.mono (by simp))
  have hB2 := HB2.out.below hd HB2.out.lt
  have hB3 := HB3.out.below hd HB3.out.lt
  have hB4 := HB4.out.below hd HB4.out.lt
  have hB5 := HB5.out.below hd HB5.out.lt
  have hL := HL.out.below hd; have hWN := HWN.out.below hc
  clear hc hd hb1 HB2 HB3 HB4 HB5 HL HWN HW1 cT
  have HB2 := Lib.hid hB2; have HB3 := Lib.hid hB3; have HB4 := Lib.hid hB4; have HB5 := Lib.hid hB5; have HL := Lib.hid hL; have HWN := Lib.hid hWN; have HW := Lib.hid hb2
  clear hB2 hB3 hB4 hB5 hL hWN hb2
  have hb1 := HW.out.alloc HW.out.size (.cells #[.int .i64 1, .int .i64 0, .int .i64 0, .int .i64 0] 87)
  have cT : Hid (Calls Tryd.prog 71 #[.slice (some ⟨w2.heap.size, 0, none⟩) 1 1] (w2.alloc (.cells #[.int .i64 1, .int .i64 0, .int .i64 0, .int .i64 0] 87)) fun e w' => e = .returned (.tuple #[.string (str []), .int .i64 2]) ∧ Below (w2.alloc (.cells #[.int .i64 1, .int .i64 0, .int .i64 0, .int .i64 0] 87)).heap.size (w2.alloc (.cells #[.int .i64 1, .int .i64 0, .int .i64 0, .int .i64 0] 87)) w') := Lib.hid (by
    have q := rep_text (some ⟨w2.heap.size, 0, none⟩) 1 [⟨1, 0, 0, 0⟩] _ (by decide) (cells_of (t := 87) cv_len (Blk.new w2 87 #[.int .i64 1, .int .i64 0, .int .i64 0, .int .i64 0])) (by intro c hc; rw [List.mem_singleton] at hc; subst hc; decide) (hv.below hb1)
    rw [text_bad 0 (by decide)] at q
    exact q)
  go_wp2_with fail
  refine cT.out.mono ?_
  rintro e w3 ⟨rfl, hc⟩
  have hb2 := hb1.trans (hc.mono hb1.size)
  have hd : Below w2.heap.size w2 w3 := ((Below.refl w2.heap.size w2).alloc (Nat.le_refl _) (.cells #[.int .i64 1, .int .i64 0, .int .i64 0, .int .i64 0] 87)).trans (hc.mono (by simp))
  have hB2 := HB2.out.below hd HB2.out.lt
  have hB3 := HB3.out.below hd HB3.out.lt
  have hB4 := HB4.out.below hd HB4.out.lt
  have hB5 := HB5.out.below hd HB5.out.lt
  have hL := HL.out.below hd; have hWN := HWN.out.below hd
  clear hc hd hb1 HB2 HB3 HB4 HB5 HL HWN HW cT
  have HB2 := Lib.hid hB2; have HB3 := Lib.hid hB3; have HB4 := Lib.hid hB4; have HB5 := Lib.hid hB5; have HL := Lib.hid hL; have HWN := Lib.hid hWN; have HW := Lib.hid hb2
  clear hB2 hB3 hB4 hB5 hL hWN hb2
  have hb1 := HW.out.alloc HW.out.size (.cells #[.int .i64 1, .int .i64 0, .int .i64 0, .int .i64 4] 87)
  have cT : Hid (Calls Tryd.prog 71 #[.slice (some ⟨w3.heap.size, 0, none⟩) 1 1] (w3.alloc (.cells #[.int .i64 1, .int .i64 0, .int .i64 0, .int .i64 4] 87)) fun e w' => e = .returned (.tuple #[.string (str []), .int .i64 2]) ∧ Below (w3.alloc (.cells #[.int .i64 1, .int .i64 0, .int .i64 0, .int .i64 4] 87)).heap.size (w3.alloc (.cells #[.int .i64 1, .int .i64 0, .int .i64 0, .int .i64 4] 87)) w') := Lib.hid (by
    have q := rep_text (some ⟨w3.heap.size, 0, none⟩) 1 [⟨1, 0, 0, 4⟩] _ (by decide) (cells_of (t := 87) cv_len (Blk.new w3 87 #[.int .i64 1, .int .i64 0, .int .i64 0, .int .i64 4])) (by intro c hc; rw [List.mem_singleton] at hc; subst hc; decide) (hv.below hb1)
    rw [text_bad 4 (by decide)] at q
    exact q)
  go_wp2_with fail
  refine cT.out.mono ?_
  rintro e w4 ⟨rfl, hc⟩
  have hb2 := hb1.trans (hc.mono hb1.size)
  have hd : Below w3.heap.size w3 w4 := ((Below.refl w3.heap.size w3).alloc (Nat.le_refl _) (.cells #[.int .i64 1, .int .i64 0, .int .i64 0, .int .i64 4] 87)).trans (hc.mono (by simp))
  have hB2 := HB2.out.below hd HB2.out.lt
  have hB3 := HB3.out.below hd HB3.out.lt
  have hB4 := HB4.out.below hd HB4.out.lt
  have hB5 := HB5.out.below hd HB5.out.lt
  have hL := HL.out.below hd; have hWN := HWN.out.below hd
  clear hc hd hb1 HB2 HB3 HB4 HB5 HL HWN HW cT
  have HB2 := Lib.hid hB2; have HB3 := Lib.hid hB3; have HB4 := Lib.hid hB4; have HB5 := Lib.hid hB5; have HL := Lib.hid hL; have HWN := Lib.hid hWN; have HW := Lib.hid hb2
  clear hB2 hB3 hB4 hB5 hL hWN hb2
  have s0 := (HB5.out.cell 0).trans rfl
  have s1 := (HB5.out.cell 1).trans rfl
  have s2 := (HB5.out.cell 2).trans rfl
  have s3 := (HB5.out.cell 3).trans rfl
  go_wp2_with fail
  clear s0 s1 s2 s3
  refine (cmp_ok [] (exS_in (r := w.heap.size + 2) (z := w.heap.size + 4) (k := w.heap.size + 3) (ru := ra1) (es := ea) rfl HB2.out HB4.out HB3.out) (exS_in (r := w.heap.size + 2) (z := w.heap.size + 4) (k := w.heap.size + 3) (ru := ra1) (es := ea) rfl HB2.out HB4.out HB3.out) (exS_few _ _ _ _ _ rfl).1 (exS_few _ _ _ _ _ rfl).2 (ex_aa _ _ _ _ _ _).1 (ex_aa _ _ _ _ _ _).2).mono ?_
  rintro e w5 ⟨A5, c5, rfl, _, hc⟩
  have hL := HL.out.below hc; have hWN := HWN.out.below hc; have hb2 := HW.out.trans (hc.mono HW.out.size)
  clear hc HB2 HB3 HB4 HB5 HL HWN HW
  have HL := Lib.hid hL; have HWN := Lib.hid hWN; have HW := Lib.hid hb2
  clear hL hWN hb2
  go_wp2_with fail
  refine calls_gen (fun W => Blk W w5.heap.size 83 ([rs].flatMap RV.cells).toArray ∧ Blk W (w5.heap.size + 2) 83 ([rn].flatMap RV.cells).toArray ∧ Below w5.heap.size w5 W) ?_ ?_
  · exact ⟨((Blk.new _ _ _).alloc _).alloc _, Blk.newAt _ (w5.heap.size + 2) (by simp) _ _, (((Below.refl w5.heap.size w5).alloc (Nat.le_refl _) _).alloc (by simp <;> omega) _).alloc (by simp <;> omega) _⟩
  rintro W5 ⟨r1, r2, hd⟩
  refine (cmp_no (exR_in (ru := rs) r1) (exR_in (ru := rn) r2) (exR_few _ _).1 (exR_few _ _).2 (ex_letters _ _)).mono ?_
  rintro e w6 ⟨rfl, hc0⟩
  have hc := hd.trans (hc0.mono hd.size)
  have hL := HL.out.below hc; have hWN := HWN.out.below hc; have hb2 := HW.out.trans (hc.mono HW.out.size)
  clear hc hc0 hd r1 r2 HL HWN HW
  have HL := Lib.hid hL; have HWN := Lib.hid hWN; have HW := Lib.hid hb2
  clear hL hWN hb2
  go_wp2_with fail
  refine calls_gen (fun W => Blk W w6.heap.size 39 #[.string ⟨#[65]⟩, .slice none 0 0] ∧ Blk W (w6.heap.size + 1) 39 #[.string ⟨#[66]⟩, .slice none 0 0] ∧ Below w6.heap.size w6 W) ?_ ?_
  · exact ⟨(Blk.new _ _ _).alloc _, Blk.newAt _ (w6.heap.size + 1) (by simp) _ _, ((Below.refl w6.heap.size w6).alloc (Nat.le_refl _) _).alloc (by simp) _⟩
  rintro W6 ⟨r1, r2, hd⟩
  refine (cmp_no (exZ_in (nm := ⟨#[65]⟩) r1) (exZ_in (nm := ⟨#[66]⟩) r2) (exZ_few _ _).1 (exZ_few _ _).2 (ex_zones _ _)).mono ?_
  rintro e w7 ⟨rfl, hc0⟩
  have hc := hd.trans (hc0.mono hd.size)
  have cS := Lib.hid (same_any A (some ⟨w1.heap.size, 0, none⟩) c 3 exL exL true w7 (by simp) (HL.out.below hc) (HWN.out.below hc) (by decide) (by decide))
  have HW7 := Lib.hid (HW.out.trans (hc.mono HW.out.size))
  clear hc hc0 hd r1 r2 HL HWN HW
  go_wp2_with fail
  refine cS.out.mono ?_
  rintro e w8 ⟨rfl, hq⟩
  have HQ := Lib.hid (HW7.out.trans (hq.below w.heap.size))
  clear hq cS HW7
  go_wp2_with fail
  go_ret
  exact ⟨rfl, HQ.out⟩
end Go.Proofs.YtlideagcmhlkeaaDoor

/- ReportShapes: how a copied source is stored in its box, what grows at its ends, and how long its parts are. No walk. -/
namespace Go.Proofs.YtlideagcmhlkeaaDoor
open Go.RowKit
set_option linter.unusedVariables false

theorem CopyOf.box32 {W : World} {base G : Nat} {t : SV} {cs : Array Value} (h : CopyOf W base t t) (o : Blk W G 32 cs) (j : Nat) (u : Value) : CopyOf (W.setCell ⟨G, j, none⟩ u) base t t :=
  ⟨⟨rfl, row_box32 h.rules.2 o (by decide) j u⟩, ⟨row_box32 h.zones.1 o (by decide) j u, ⟨h.zones.2.same, fun i y hy => row_box32 (h.zones.2.eras i y hy) o (by decide) j u, h.zones.2.apart⟩⟩, ⟨rfl, row_box32 h.links.2 o (by decide) j u⟩, ⟨rfl, row_box32 h.shifts.2 o (by decide) j u⟩⟩
/-- a copy is stored in a box -/
theorem Sb.start {w W : World} {n G base : Nat} {t : SV} {a b c d : Value} (o : Blk W G 32 #[a, b, c, d]) (hcp : CopyOf W base t t) (hb : Below n w W) (hn : n ≤ base ∧ n ≤ G) :
    Sb w ((((W.setCell ⟨G, 0, none⟩ (.slice t.rA t.rules.length t.rc)).setCell ⟨G, 1, none⟩ (.slice t.zA t.zones.length t.zc)).setCell ⟨G, 2, none⟩ (.slice t.kA t.links.length t.kc)).setCell ⟨G, 3, none⟩ (.slice t.hA t.shifts.length t.hc)) n G base t := by
  have o0 := o.set_ 0 (.slice t.rA t.rules.length t.rc)
  have o1 := o0.set_ 1 (.slice t.zA t.zones.length t.zc)
  have o2 := o1.set_ 2 (.slice t.kA t.links.length t.kc)
  have o3 := o2.set_ 3 (.slice t.hA t.shifts.length t.hc)
  exact ⟨o3, (((hcp.box32 o 0 _).box32 o0 1 _).box32 o1 2 _).box32 o2 3 _, (((hb.setCell (p := ⟨G, 0, none⟩) hn.2 _).setCell (p := ⟨G, 1, none⟩) hn.2 _).setCell (p := ⟨G, 2, none⟩) hn.2 _).setCell (p := ⟨G, 3, none⟩) hn.2 _, hn⟩
/-- parts that leave room -/
def Sm (s : SV) : Prop := s.rules.length ≤ 50 ∧ s.zones.length ≤ 50 ∧ s.links.length ≤ 50 ∧ s.shifts.length ≤ 50 ∧ ∀ z ∈ s.zones, z.eras.length ≤ 50
/-- parts that can be compared -/
def Sz (s : SV) : Prop := fewW s ∧ SrcSz s
theorem few.sm {s : SV} (h : few s) : Sm s := ⟨by have := h.1; omega, by have := h.2.1; omega, by have := h.2.2.1; omega, by have := h.2.2.2.1; omega, fun z hz => by have := h.2.2.2.2 z hz; omega⟩
theorem Sm.k {s : SV} (h : Sm s) : fewK s := ⟨by have := h.1; omega, by have := h.2.1; omega, by have := h.2.2.1; omega, by have := h.2.2.2.1; omega, fun z hz => by have := h.2.2.2.2 z hz; omega⟩
theorem Sz.mk' {s : SV} (h1 : s.rules.length ≤ 60) (h2 : s.zones.length ≤ 60) (h3 : s.links.length ≤ 60) (h4 : s.shifts.length ≤ 60) (h5 : ∀ z ∈ s.zones, z.eras.length ≤ 60) : Sz s := by
  refine ⟨⟨by omega, by omega, by omega, trivial, fun z hz => by have := h5 z hz; omega⟩, ?_⟩
  unfold SrcSz maxLen
  exact ⟨by omega, by omega, by omega, by omega, fun z hz => by have := h5 z hz; omega⟩
theorem Sm.z {s : SV} (h : Sm s) : Sz s := Sz.mk' (by have := h.1; omega) (by have := h.2.1; omega) (by have := h.2.2.1; omega) (by have := h.2.2.2.1; omega) (fun z hz => by have := h.2.2.2.2 z hz; omega)
section
variable {t : SV} (h : Sm t)
include h
theorem Sm.ruleZ (i : Nat) (y : RV) : Sz { t with rules := t.rules.set i y } := Sz.mk' (by show (t.rules.set i y).length ≤ 60; rw [List.length_set]; have := h.1; omega) (by have := h.2.1; show t.zones.length ≤ 60; omega) (by have := h.2.2.1; show t.links.length ≤ 60; omega) (by have := h.2.2.2.1; show t.shifts.length ≤ 60; omega) (fun z hz => by have := h.2.2.2.2 z hz; omega)
theorem Sm.growR (y : RV) (A : Option Addr) (c : Nat) : Sz { t with rules := t.rules ++ [y], rA := A, rc := c } := Sz.mk' (by show (t.rules ++ [y]).length ≤ 60; rw [List.length_append]; show t.rules.length + 1 ≤ 60; have := h.1; omega) (by have := h.2.1; show t.zones.length ≤ 60; omega) (by have := h.2.2.1; show t.links.length ≤ 60; omega) (by have := h.2.2.2.1; show t.shifts.length ≤ 60; omega) (fun z hz => by have := h.2.2.2.2 z hz; omega)
theorem Sm.linkZ (i : Nat) (y : KV) : Sz { t with links := t.links.set i y } := Sz.mk' (by have := h.1; show t.rules.length ≤ 60; omega) (by have := h.2.1; show t.zones.length ≤ 60; omega) (by show (t.links.set i y).length ≤ 60; rw [List.length_set]; have := h.2.2.1; omega) (by have := h.2.2.2.1; show t.shifts.length ≤ 60; omega) (fun z hz => by have := h.2.2.2.2 z hz; omega)
theorem Sm.tailZ (A : Option Addr) (c : Nat) : Sz { t with links := t.links.tail, kA := A, kc := c } := Sz.mk' (by have := h.1; show t.rules.length ≤ 60; omega) (by have := h.2.1; show t.zones.length ≤ 60; omega) (by show t.links.tail.length ≤ 60; rw [List.length_tail]; have := h.2.2.1; omega) (by have := h.2.2.2.1; show t.shifts.length ≤ 60; omega) (fun z hz => by have := h.2.2.2.2 z hz; omega)
theorem Sm.zoneZ (i : Nat) (y : ZV) (hy : y.eras.length ≤ 60) : Sz { t with zones := t.zones.set i y } := Sz.mk' (by have := h.1; show t.rules.length ≤ 60; omega) (by show (t.zones.set i y).length ≤ 60; rw [List.length_set]; have := h.2.1; omega) (by have := h.2.2.1; show t.links.length ≤ 60; omega) (by have := h.2.2.2.1; show t.shifts.length ≤ 60; omega) (fun z hz => by
  rcases List.mem_or_eq_of_mem_set (show z ∈ t.zones.set i y from hz) with q | q
  · have := h.2.2.2.2 z q; omega
  · rw [q]; exact hy)
theorem Sm.growZ (y : ZV) (hy : y.eras.length ≤ 60) (A : Option Addr) (c : Nat) : Sz { t with zones := t.zones ++ [y], zA := A, zc := c } := Sz.mk' (by have := h.1; show t.rules.length ≤ 60; omega) (by show (t.zones ++ [y]).length ≤ 60; rw [List.length_append]; show t.zones.length + 1 ≤ 60; have := h.2.1; omega) (by have := h.2.2.1; show t.links.length ≤ 60; omega) (by have := h.2.2.2.1; show t.shifts.length ≤ 60; omega) (fun z hz => by
  rcases List.mem_append.1 (show z ∈ t.zones ++ [y] from hz) with q | q
  · have := h.2.2.2.2 z q; omega
  · rw [List.mem_singleton.1 q]; exact hy)
theorem Sm.eraZ {i : Nat} {z : ZV} (hz : t.zones[i]? = some z) (k : Nat) (y : EV) : Sz (t.setEra32 i z k y) := h.zoneZ i _ (by show (z.eras.set k y).length ≤ 60; rw [List.length_set]; have := h.2.2.2.2 z (List.mem_of_getElem? hz); omega)
end
/-- what is known of the source that is changed -/
structure Gr (u : SV) : Prop where
  sm : Sm u
  str : SmallStr 1048576 u
  r0 : 0 < u.rules.length
  k0 : 0 < u.links.length
  z0 : ∃ (z : ZV), u.zones[u.zones.length - 1]? = some z ∧ 0 < z.eras.length ∧ 0 < u.zones.length
theorem like32 {W : World} {base : Nat} {s t : SV} (h : CopyOf W base s t) : P32.Like s t := ⟨h.rules.1, h.links.1, h.zones.2.same.1, fun j z y hz hy => h.zones.2.same.2 j z y hz hy⟩
theorem like_sm {s t : SV} (h : P32.Like s t) (hs : t.shifts = s.shifts) (q : Sm s) : Sm t :=
  ⟨by rw [h.rules]; exact q.1, by rw [h.len]; exact q.2.1, by rw [h.links]; exact q.2.2.1, by rw [hs]; exact q.2.2.2.1, fun y hy => by
    obtain ⟨i, hi⟩ := List.getElem?_of_mem hy
    obtain ⟨z, hz, _, he⟩ := h.zat hi
    rw [he]
    exact q.2.2.2.2 z (List.mem_of_getElem? hz)⟩
theorem like_str {B : Nat} {s t : SV} (h : P32.Like s t) (q : SmallStr B s) : SmallStr B t :=
  ⟨by rw [h.rules]; exact q.rules, fun y hy => by
    obtain ⟨i, hi⟩ := List.getElem?_of_mem hy
    obtain ⟨z, hz, hn, _⟩ := h.zat hi
    rw [hn]
    exact q.zones z (List.mem_of_getElem? hz), fun y hy => by
    obtain ⟨i, hi⟩ := List.getElem?_of_mem hy
    obtain ⟨z, hz, _, he⟩ := h.zat hi
    rw [he]
    exact q.eras z (List.mem_of_getElem? hz), by rw [h.links]; exact q.links⟩
theorem like_gr {s t : SV} (h : P32.Like s t) (hs : t.shifts = s.shifts) (q : Gr s) : Gr t :=
  ⟨like_sm h hs q.sm, like_str h q.str, by rw [h.rules]; exact q.r0, by rw [h.links]; exact q.k0, by
    obtain ⟨z, hz, he, hl⟩ := q.z0
    have hl' : 0 < t.zones.length := by rw [h.len]; exact hl
    obtain ⟨y, hy⟩ : ∃ y, t.zones[t.zones.length - 1]? = some y := ⟨_, List.getElem?_eq_getElem (by omega)⟩
    have q2 := h.zones (s.zones.length - 1) z y hz (by rw [← h.len]; exact hy)
    exact ⟨y, hy, by rw [q2.2]; exact he, hl'⟩⟩
/-- the source with a rule, a zone and a link more -/
theorem grown32 {t : SV} (hm : Sm t) (hs : SmallStr 1048576 t) (hl : t.rules.length ≤ 40 ∧ t.zones.length ≤ 10 ∧ t.links.length ≤ 40) {x : RV} {z : ZV} {k : KV} {rA zA kA : Option Addr} {rc zc kc : Nat}
    (hx : x.name.size ≤ 1 ∧ x.letter.size ≤ 1) (hz : z.name.size ≤ 1 ∧ z.eras.length = 1 ∧ ∀ e ∈ z.eras, e.set.size ≤ 1 ∧ e.fmt.size ≤ 1) (hk : k.target.size ≤ 1) :
    Gr { t with rules := t.rules ++ [x], rA := rA, rc := rc, zones := t.zones ++ [z], zA := zA, zc := zc, links := t.links ++ [k], kA := kA, kc := kc } := by
  refine ⟨⟨?_, ?_, ?_, hm.2.2.2.1, fun y hy => ?_⟩, ⟨fun y hy => ?_, fun y hy => ?_, fun y hy => ?_, fun y hy => ?_⟩, ?_, ?_, z, ?_, ?_, ?_⟩
  · show (t.rules ++ [x]).length ≤ 50; rw [List.length_append]; show t.rules.length + 1 ≤ 50; omega
  · show (t.zones ++ [z]).length ≤ 50; rw [List.length_append]; show t.zones.length + 1 ≤ 50; omega
  · show (t.links ++ [k]).length ≤ 50; rw [List.length_append]; show t.links.length + 1 ≤ 50; omega
  · rcases List.mem_append.1 (show y ∈ t.zones ++ [z] from hy) with q | q
    · exact hm.2.2.2.2 y q
    · rw [List.mem_singleton.1 q]; omega
  · rcases List.mem_append.1 (show y ∈ t.rules ++ [x] from hy) with q | q
    · exact hs.rules y q
    · rw [List.mem_singleton.1 q]; exact ⟨by omega, by omega⟩
  · rcases List.mem_append.1 (show y ∈ t.zones ++ [z] from hy) with q | q
    · exact hs.zones y q
    · rw [List.mem_singleton.1 q]; omega
  · rcases List.mem_append.1 (show y ∈ t.zones ++ [z] from hy) with q | q
    · exact hs.eras y q
    · rw [List.mem_singleton.1 q]; exact fun e he => by have := hz.2.2 e he; exact ⟨by omega, by omega⟩
  · rcases List.mem_append.1 (show y ∈ t.links ++ [k] from hy) with q | q
    · exact hs.links y q
    · rw [List.mem_singleton.1 q]; omega
  · show 0 < (t.rules ++ [x]).length; rw [List.length_append]; show 0 < t.rules.length + 1; omega
  · show 0 < (t.links ++ [k]).length; rw [List.length_append]; show 0 < t.links.length + 1; omega
  · show (t.zones ++ [z])[(t.zones ++ [z]).length - 1]? = some z
    rw [show (t.zones ++ [z]).length - 1 = t.zones.length by simp, List.getElem?_append_right (Nat.le_refl _)]
    simp
  · omega
  · show 0 < (t.zones ++ [z]).length; rw [List.length_append]; show 0 < t.zones.length + 1; omega
section
variable {V1 W : World} {n G base : Nat} {t : SV}
/-- where the parts lie -/
theorem Sb.ruleAt {k : Nat} {x : RV} (h : Sb V1 W n G base t) (hk : t.rules[k]? = some x) : ∃ B, t.rA = some ⟨B, 0, none⟩ ∧ (∀ j u, x.cells[j]? = some u → W.cell? ⟨B, k * 11 + j, none⟩ = some u) ∧ ∀ j, W.frozen? ⟨B, j, none⟩ = false := by
  obtain ⟨B, hA, _, _⟩ := h.cp.rules.2.addr32 (by have := (List.getElem?_eq_some_iff.1 hk).1; omega)
  have hrow := h.cp.rules.2
  rw [hA] at hrow
  exact ⟨B, hA, fun j u hu => hrow.cellAt32 len_rule hk j u hu, fun j => hrow.frozenAt32 j⟩
theorem Sb.linkAt {k : Nat} {x : KV} (h : Sb V1 W n G base t) (hk : t.links[k]? = some x) : ∃ B, t.kA = some ⟨B, 0, none⟩ ∧ (∀ j u, x.cells[j]? = some u → W.cell? ⟨B, k * 2 + j, none⟩ = some u) ∧ ∀ j, W.frozen? ⟨B, j, none⟩ = false := by
  obtain ⟨B, hA, _, _⟩ := h.cp.links.2.addr32 (by have := (List.getElem?_eq_some_iff.1 hk).1; omega)
  have hrow := h.cp.links.2
  rw [hA] at hrow
  exact ⟨B, hA, fun j u hu => hrow.cellAt32 (fun _ => rfl) hk j u hu, fun j => hrow.frozenAt32 j⟩
theorem Sb.zoneAt {k : Nat} {x : ZV} (h : Sb V1 W n G base t) (hk : t.zones[k]? = some x) : ∃ B, t.zA = some ⟨B, 0, none⟩ ∧ (∀ j u, x.cells[j]? = some u → W.cell? ⟨B, k * 2 + j, none⟩ = some u) ∧ ∀ j, W.frozen? ⟨B, j, none⟩ = false := by
  obtain ⟨B, hA, _, _⟩ := h.cp.zones.1.addr32 (by have := (List.getElem?_eq_some_iff.1 hk).1; omega)
  have hrow := h.cp.zones.1
  rw [hA] at hrow
  exact ⟨B, hA, fun j u hu => hrow.cellAt32 len_zone hk j u hu, fun j => hrow.frozenAt32 j⟩
theorem Sb.eraAt {i k : Nat} {z : ZV} {x : EV} (h : Sb V1 W n G base t) (hz : t.zones[i]? = some z) (hk : z.eras[k]? = some x) : ∃ B, z.A = some ⟨B, 0, none⟩ ∧ (∀ j u, x.cells[j]? = some u → W.cell? ⟨B, k * 13 + j, none⟩ = some u) ∧ ∀ j, W.frozen? ⟨B, j, none⟩ = false := by
  have hr := h.cp.zones.2.eras i z hz
  obtain ⟨B, hA, _, _⟩ := RowOf.addr32 hr (by have := (List.getElem?_eq_some_iff.1 hk).1; omega)
  have hrow : RowOf W base 47 13 EV.cells z.A z.c z.eras := hr
  rw [hA] at hrow
  exact ⟨B, hA, fun j u hu => hrow.cellAt32 len_era hk j u hu, fun j => hrow.frozenAt32 j⟩
end
theorem Sb.freshA {V1 W : World} {n G base : Nat} {t : SV} (h : Sb V1 W n G base t) {y : ZV} (hy : y ∈ t.zones) {g : Nat} (hA : y.A = some ⟨g, 0, none⟩) : g < W.heap.size := by
  obtain ⟨i, hi⟩ := List.getElem?_of_mem hy
  have hr : RowOf W base 47 13 EV.cells y.A y.c y.eras := h.cp.zones.2.eras i y hi
  rw [hA] at hr
  exact (World.ownsRow.lt hr g rfl).2
section
variable {V1 W : World} {n G base : Nat} {t : SV}
theorem Sb.ruleC {B k : Nat} {x : RV} (h : Sb V1 W n G base t) (hA : t.rA = some ⟨B, 0, none⟩) (hk : t.rules[k]? = some x) : (∀ j u, x.cells[j]? = some u → W.cell? ⟨B, k * 11 + j, none⟩ = some u) ∧ ∀ j, W.frozen? ⟨B, j, none⟩ = false := by
  have hrow := h.cp.rules.2
  rw [hA] at hrow
  exact ⟨fun j u hu => hrow.cellAt32 len_rule hk j u hu, fun j => hrow.frozenAt32 j⟩
theorem Sb.linkC {B k : Nat} {x : KV} (h : Sb V1 W n G base t) (hA : t.kA = some ⟨B, 0, none⟩) (hk : t.links[k]? = some x) : (∀ j u, x.cells[j]? = some u → W.cell? ⟨B, k * 2 + j, none⟩ = some u) ∧ ∀ j, W.frozen? ⟨B, j, none⟩ = false := by
  have hrow := h.cp.links.2
  rw [hA] at hrow
  exact ⟨fun j u hu => hrow.cellAt32 (fun _ => rfl) hk j u hu, fun j => hrow.frozenAt32 j⟩
theorem Sb.zoneC {B k : Nat} {x : ZV} (h : Sb V1 W n G base t) (hA : t.zA = some ⟨B, 0, none⟩) (hk : t.zones[k]? = some x) : (∀ j u, x.cells[j]? = some u → W.cell? ⟨B, k * 2 + j, none⟩ = some u) ∧ ∀ j, W.frozen? ⟨B, j, none⟩ = false := by
  have hrow := h.cp.zones.1
  rw [hA] at hrow
  exact ⟨fun j u hu => hrow.cellAt32 len_zone hk j u hu, fun j => hrow.frozenAt32 j⟩
theorem Sb.eraC {B i k : Nat} {z : ZV} {x : EV} (h : Sb V1 W n G base t) (hz : t.zones[i]? = some z) (hA : z.A = some ⟨B, 0, none⟩) (hk : z.eras[k]? = some x) : (∀ j u, x.cells[j]? = some u → W.cell? ⟨B, k * 13 + j, none⟩ = some u) ∧ ∀ j, W.frozen? ⟨B, j, none⟩ = false := by
  have hrow : RowOf W base 47 13 EV.cells z.A z.c z.eras := h.cp.zones.2.eras i z hz
  rw [hA] at hrow
  exact ⟨fun j u hu => hrow.cellAt32 len_era hk j u hu, fun j => hrow.frozenAt32 j⟩
end
theorem Sb.capK {V1 W : World} {n G base : Nat} {t : SV} (h : Sb V1 W n G base t) (hl : 0 < t.links.length) : t.links.length ≤ t.kc := by
  obtain ⟨B, cap, hv, _, _, hc, _⟩ := own_form h.cp.links.2 hl
  injection hv with _ _ hv
  rw [hv]
  exact hc
theorem no_call {a b : SV} {W : World} (h : ¬ P32.okS a b) (hA : SrcIn W a) (hB : SrcIn W b) (hfa : fewW a) (hzb : SrcSz b) :
    Calls Tryd.prog 42 #[.agg #[.slice a.rA a.rules.length a.rc, .slice a.zA a.zones.length a.zc, .slice a.kA a.links.length a.kc, .slice a.hA a.shifts.length a.hc], .agg #[.slice b.rA b.rules.length b.rc, .slice b.zA b.zones.length b.zc, .slice b.kA b.links.length b.kc, .slice b.hA b.shifts.length b.hc]] W fun e W' => e = .returned (.tuple #[.slice none 0 0, .int .i64 2]) ∧ Below W.heap.size W W' := by
  refine (compare_anyW a b W hA hB hfa hzb).mono ?_
  rintro e W' (⟨h1, _⟩ | ⟨_, rfl, hb⟩)
  · exact absurd h1 h
  · exact ⟨rfl, hb⟩
theorem rule_no {x y : RV} (h : ¬ (x.name = y.name ∧ x.frm = y.frm ∧ x.til = y.til ∧ x.month = y.month ∧ x.dk = y.dk ∧ x.dw = y.dw ∧ x.dd = y.dd ∧ x.abase = y.abase ∧ x.letter = y.letter)) : P32.sameR x y = false := decide_eq_false h
theorem era_no {a b : EV} (h : ¬ (a.kind = b.kind ∧ a.save = b.save ∧ a.set = b.set ∧ a.ui = b.ui ∧ a.uy = b.uy ∧ a.um = b.um ∧ a.dk = b.dk ∧ a.dw = b.dw ∧ a.dd = b.dd ∧ a.ab = b.ab)) : P32.sameE a b = false := decide_eq_false h
theorem mod20 (n : Int) (h : 0 ≤ n ∧ n ≤ 255) : ∃ q : Int, n % 20 = q ∧ (q = 0 ∨ q = 1 ∨ q = 2 ∨ q = 3 ∨ q = 4 ∨ q = 5 ∨ q = 6 ∨ q = 7 ∨ q = 8 ∨ q = 9 ∨ q = 10 ∨ q = 11 ∨ q = 12 ∨ q = 13 ∨ q = 14 ∨ q = 15 ∨ q = 16 ∨ q = 17 ∨ q = 18 ∨ q = 19) := ⟨n % 20, rfl, by omega⟩
/-- a string with a letter behind it is another string -/
theorem str_more (a : ByteArray) : a ++ ⟨#[120]⟩ ≠ a := fun h => by
  have h1 := congrArg ByteArray.size h
  rw [ByteArray.size_append] at h1
  have h2 : (⟨#[120]⟩ : ByteArray).size = 1 := rfl
  omega
theorem unconsS {l : List Value} {n : Nat} (h : l.length = n + 1) : ∃ a l', l = a :: l' ∧ l'.length = n := by
  match l, h with
  | a :: l', h => exact ⟨a, l', rfl, by simpa using h⟩
theorem bool_not (b : Bool) : (!b) ≠ b := by cases b <;> decide
theorem link_no {L M : List KV} (h : L = M) {i : Nat} {y : KV} (hy : L[i]? = some y) : L.set i { y with target := y.target ++ ⟨#[120]⟩ } ≠ M := fun q => by
  subst h
  have q2 := congrArg (fun l => l[i]?) q
  simp only [List.getElem?_set_self (List.getElem?_eq_some_iff.1 hy).1, hy, Option.some.injEq] at q2
  exact str_more _ (congrArg KV.target q2)
theorem tail_no {L M : List KV} (h : L = M) (hl : 0 < L.length) : L.tail ≠ M := fun q => by
  subst h
  have q2 := congrArg List.length q
  rw [List.length_tail] at q2
  omega
theorem mod_natS (n m : Nat) (hm : 0 < m) : n % m < m ∧ (0 : Int) ≤ (n : Int) % (m : Int) ∧ (n : Int) % (m : Int) < (m : Int) ∧ ((m : Int) == 0) = false ∧ ¬ (m : Int) = 0 :=
  ⟨Nat.mod_lt n hm, Int.emod_nonneg _ (by omega), Int.emod_lt_of_pos _ (by omega), by rw [beq_eq_false_iff_ne]; omega, by omega⟩
theorem nat_of (n : Int) (h : 0 ≤ n ∧ n ≤ 255) : ∃ k : Nat, n = (k : Int) ∧ (k : Int) ≤ 255 := ⟨n.toNat, by omega, by omega⟩
theorem wrap_more (x : Int) : wrap64 (x + 1) ≠ x := by unfold wrap64; omega
theorem wrap_less (x : Int) : wrap64 (x - 1) ≠ x := by unfold wrap64; omega
end Go.Proofs.YtlideagcmhlkeaaDoor

/- What the rows' list of variables gives the walks of chapter 32. -/
namespace Go.Proofs.YtlideagcmhlkeaaDoor
open Go.RowKit
set_option linter.unusedVariables false

theorem tPow : (Tryd.prog.globals[2]?).map (·.type) = some 196 := by kernel_rfl
theorem cPow : Tryd.prog.cellsOf 196 = 20 := by kernel_rfl
theorem cU64 : Tryd.prog.cellsOf 178 = 1 := by kernel_rfl
theorem gWords : Tryd.prog.globalNamed "analemma/report.words" = some 0 := by kernel_rfl
theorem tWords : (Tryd.prog.globals[0]?).map (·.type) = some 165 := by kernel_rfl
theorem cWords : Tryd.prog.cellsOf 165 = 10 := by kernel_rfl
theorem cWord : Tryd.prog.cellsOf 164 = 2 := by kernel_rfl
set_option maxRecDepth 100000 in
theorem rec_cells {H : Type} {enc : TypeId × Value → H} {w : World} {base : Nat} {sp : Nat → Bool} {held : Bool} {fuel : Nat} {cs : List Value} {b : Int} {s : List UInt8} {p : List MemPlace} (hl : cs.length = 2)
    (h : DataW.trod enc Tryd.prog w base sp held fuel 164 cs = some (.agg [.lit (.int .i64 b), .lit (.string s)], p)) : cs = [.int .i64 b, .string (str s)] := by
  match cs, hl with
  | [c0, c1], _ =>
    obtain ⟨xs, n, _, hx, _, hxl, hg⟩ := DataW.trod_struct Tryd.underlying164 h
    have h0 := hg 0 _ rfl
    have h1 := hg 1 _ rfl
    match xs, hxl with
    | [x0, x1], _ =>
      obtain ⟨n0, e0, q0, _⟩ := DataW.trod_int Tryd.underlying3 (h0.trans rfl)
      obtain ⟨s1, e1, q1, _⟩ := DataW.trod_string Tryd.underlying9 (h1.trans rfl)
      subst q0 q1
      have hx1 : DataW.agg [.lit (.int .i64 b), .lit (.string s)] = (DataW.agg [.lit (.int .i64 n0), .lit (.string s1.data.toList)] : DataW H) := congrArg Prod.fst hx
      have hx2 := DataW.agg.inj hx1
      have r0 := (Lit.int.inj (DataW.lit.inj (List.cons.inj hx2).1)).2
      have r1 := Lit.string.inj (DataW.lit.inj (List.cons.inj (List.cons.inj hx2).2).1)
      have cI : Tryd.prog.cellsOf 3 = 1 := by kernel_rfl
      have cS : Tryd.prog.cellsOf 9 = 1 := by kernel_rfl
      have f0 : List.take (Tryd.prog.cellsOf 3) [c0, c1] = [.int .i64 n0] := e0
      have f1 : List.take (Tryd.prog.cellsOf 9) [c1] = [.string s1] := e1
      rw [cI] at f0
      rw [cS] at f1
      have g0 := (List.cons.inj f0).1
      have g1 := (List.cons.inj f1).1
      rw [g0, g1, r0, r1]
      rfl
theorem words_of {W : World} {rest : List (String × DataW Unit)} (h : laidMet Tryd.prog (("analemma/report.words", Rows.laid_analemma_report_words) :: rest) W) : (∀ j u, (#[.int .i64 1, .string ⟨#[115, 97, 118, 101]⟩, .int .i64 2, .string ⟨#[97, 116]⟩, .int .i64 4, .string ⟨#[111, 102, 102]⟩, .int .i64 8, .string ⟨#[102, 111, 114, 109, 97, 116]⟩, .int .i64 16, .string ⟨#[117, 110, 116, 105, 108]⟩] : Array Value)[j]? = some u → W.cell? ⟨0, j, none⟩ = some u) ∧ 0 < W.heap.size := by
  obtain ⟨ps, ⟨g', t', cs, fuel, p, q, hg', ht', hvar, hd, _, _⟩, _⟩ := h
  obtain rfl := Option.some.inj (gWords.symm.trans hg')
  obtain rfl := Option.some.inj (tWords.symm.trans ht')
  obtain ⟨xs, m, _, hx, hcl, hxl, hel⟩ := DataW.trod_array Tryd.underlying165 hd
  rw [cWords] at hcl
  rw [cWord] at hel
  obtain ⟨cl⟩ := cs
  simp only at hcl hel
  have hcs : cl = (#[.int .i64 1, .string ⟨#[115, 97, 118, 101]⟩, .int .i64 2, .string ⟨#[97, 116]⟩, .int .i64 4, .string ⟨#[111, 102, 102]⟩, .int .i64 8, .string ⟨#[102, 111, 114, 109, 97, 116]⟩, .int .i64 16, .string ⟨#[117, 110, 116, 105, 108]⟩] : Array Value).toList := by
    match cl, hcl, xs, hxl with
    | [c0, c1, c2, c3, c4, c5, c6, c7, c8, c9], _, [x0, x1, x2, x3, x4], _ =>
      simp only [Rows.laid_analemma_report_words, List.map_cons, List.map_nil, Prod.mk.injEq, DataW.agg.injEq, List.cons.injEq, and_true] at hx
      obtain ⟨⟨r0, r1, r2, r3, r4⟩, _⟩ := hx
      have k0 := hel 0 (by decide)
      have k1 := hel 1 (by decide)
      have k2 := hel 2 (by decide)
      have k3 := hel 3 (by decide)
      have k4 := hel 4 (by decide)
      obtain ⟨d0, p0⟩ := x0
      obtain ⟨d1, p1⟩ := x1
      obtain ⟨d2, p2⟩ := x2
      obtain ⟨d3, p3⟩ := x3
      obtain ⟨d4, p4⟩ := x4
      simp only at r0 r1 r2 r3 r4
      subst r0 r1 r2 r3 r4
      have j0 := rec_cells rfl (k0.trans rfl)
      have j1 := rec_cells rfl (k1.trans rfl)
      have j2 := rec_cells rfl (k2.trans rfl)
      have j3 := rec_cells rfl (k3.trans rfl)
      have j4 := rec_cells rfl (k4.trans rfl)
      simp only [Nat.zero_mul, Nat.one_mul, Nat.reduceMul, List.drop_zero, List.drop_succ_cons, List.take_succ_cons, List.take_zero, List.cons.injEq, and_true] at j0 j1 j2 j3 j4
      obtain ⟨rfl, rfl⟩ := j0
      obtain ⟨rfl, rfl⟩ := j1
      obtain ⟨rfl, rfl⟩ := j2
      obtain ⟨rfl, rfl⟩ := j3
      obtain ⟨rfl, rfl⟩ := j4
      rfl
  subst hcs
  have hlt : 0 < W.heap.size := by
    unfold World.var? at hvar
    simp only [gWords, Option.bind_some] at hvar
    rcases Nat.lt_or_ge 0 W.heap.size with q | q
    · exact q
    · rw [Array.getElem?_eq_none q] at hvar; cases hvar
  refine ⟨fun j u hu => ?_, hlt⟩
  have hj : j < 10 := (Array.getElem?_eq_some_iff.1 hu).1
  have := World.var?_cell gWords hvar j
  rw [this]
  simpa using hu
theorem vars_of_laid {W : World} (h : laidMetH Tryd.prog Rows.reportAgainRow.laid W) : Vars W := by
  have h0 : laidMet Tryd.prog Rows.reportAgainRow.laid W := h
  have h1 := h0.tail
  have h2 := h1.tail
  have hpow := Lib.tabIs_of_head (k := .u64) (zs := Lib.pow10Tab) gPow tPow Tryd.underlying196 Tryd.underlying178 cU64 cPow h2
  have hw := words_of h2.tail
  refine ⟨hpow, hw.1, ?_, hw.2⟩
  unfold Lib.TabIs World.var? at hpow
  simp only [gPow, Option.bind_some] at hpow
  rcases Nat.lt_or_ge 2 W.heap.size with q | q
  · exact q
  · rw [Array.getElem?_eq_none q] at hpow; cases hpow
end Go.Proofs.YtlideagcmhlkeaaDoor

/- Bounds of literals (for the cards of chapter 32). No function of the program. -/
namespace Go.Proofs.YtlideagcmhlkeaaDoor
open Go
theorem b8 {n : Int} (h : (Lit.int .u8 n).wf = true) : 0 ≤ n ∧ n ≤ 255 := by
  have := h
  simp only [Lit.wf, Bool.and_eq_true, decide_eq_true_eq, show IntKind.u8.min = 0 from rfl, show IntKind.u8.max = 255 from rfl] at this
  omega
end Go.Proofs.YtlideagcmhlkeaaDoor

/- The witness of a law's second form, at a world that bears the listed variables. No function of the program. -/
namespace Go.Proofs.YtlideagcmhlkeaaDoor
open Go
theorem witness_row_shaped {H : Type} {enc : TypeId × Value → H} {C : Checked} {os : Os} {f : FuncId} {fn : Func} {s : OpenSpec} {conds : List PathCond} {apart : Bool} {laid : List (String × DataW Unit)} (modest : Bool) (w0 : World) (args : Array Value) (hos : w0.os = os)
    (hsh : (w0.forCall (fun _ _ => 0) ⟨#[], args, []⟩).Shaped C.prog)
    (hok : Input.okWideB C.prog (w0.forCall (fun _ _ => 0) ⟨#[], args, []⟩) f ⟨#[], args, []⟩ = true)
    (hrow : s.preRow enc C.prog fn conds apart laid (w0.forCall (fun _ _ => 0) ⟨#[], args, []⟩).memory args) :
    ∃ (w : World) (tape : Tape) (i : Input), w.os = os ∧ (w.forCall tape i).Shaped C.prog ∧ i.vars = [] ∧ Input.okWide C.prog (w.forCall tape i) .any w.heap.size f i ∧
      s.preRow enc C.prog fn conds apart laid (w.forCall tape i).memory i.args ∧ ({ modest := modest } : Assume).holds C.prog (lone (Frame.enter C.prog f i.args .normal) [] (w.forCall tape i)) :=
  ⟨w0, fun _ _ => 0, ⟨#[], args, []⟩, hos, hsh, (Input.okWide_of_okWideB (base := 0) hok).1, (Input.okWide_of_okWideB hok).2, hrow, by
    simp only [Assume.holds]
    exact ⟨by simp, by simp, fun _ => Modest.zero, by simp, by simp⟩⟩
end Go.Proofs.YtlideagcmhlkeaaDoor
