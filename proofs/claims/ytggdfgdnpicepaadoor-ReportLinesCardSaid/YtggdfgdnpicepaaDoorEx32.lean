/- The examples of chapter 32. -/
import Derived.Test.YtggdfgdnpicepaaDoorRep32g
import Derived.Test.YtggdfgdnpicepaaDoorRep32c
namespace Go.Proofs.YtggdfgdnpicepaaDoor
open Go.RowKit
set_option linter.unusedVariables false

theorem flat_get {α : Type} {f : α → List Value} {m : Nat} (hf : ∀ a, (f a).length = m) : ∀ (l : List α) (k j : Nat) (x : α), j < m → l[k]? = some x → (l.flatMap f)[k * m + j]? = (f x)[j]?
  | [], k, j, x, _, h => by simp at h
  | a :: l, 0, j, x, hj, h => by
    simp only [List.getElem?_cons_zero, Option.some.injEq] at h
    subst h
    rw [List.flatMap_cons, Nat.zero_mul, Nat.zero_add, List.getElem?_append_left (by rw [hf]; exact hj)]
  | a :: l, k + 1, j, x, hj, h => by
    simp only [List.getElem?_cons_succ] at h
    rw [List.flatMap_cons, List.getElem?_append_right (by rw [hf, Nat.succ_mul]; omega), hf, show (k + 1) * m + j - m = k * m + j by rw [Nat.succ_mul]; omega]
    exact flat_get hf l k j x hj h
/-- a block that holds these elements one by one -/
theorem cells_of {α : Type} {f : α → List Value} {m : Nat} (hf : ∀ a, (f a).length = m) {w : World} {g : Nat} {t : TypeId} {L : List α} (h : Blk w g t (L.flatMap f).toArray) : CellsIn m f w (some ⟨g, 0, none⟩) L := by
  intro k r hr
  refine ⟨g, 0, rfl, h.lt, fun j u hu => ?_⟩
  rw [h.cell, List.getElem?_toArray, Nat.zero_add, flat_get hf L k j r (by have := (List.getElem?_eq_some_iff.mp hu).1; rwa [hf] at this) hr]
  exact hu
theorem cmp_ok {a b : SV} {w : World} (l : List P32.CV) (hA : SrcIn w a) (hB : SrcIn w b) (hfa : few a) (hzb : SrcSz b) (hok : P32.okS a b) (hl : P32.chS a b = l) :
    Calls Tryd.prog 17 #[.agg #[.slice a.rA a.rules.length a.rc, .slice a.zA a.zones.length a.zc, .slice a.kA a.links.length a.kc, .slice a.hA a.shifts.length a.hc], .agg #[.slice b.rA b.rules.length b.rc, .slice b.zA b.zones.length b.zc, .slice b.kA b.links.length b.kc, .slice b.hA b.shifts.length b.hc]] w fun e w' => ∃ A c, e = .returned (.tuple #[.slice A l.length c, .int .i64 0]) ∧ ChIn w' A l ∧ Below w.heap.size w w' := by
  subst hl
  refine (compare_any a b w hA hB hfa hzb).mono ?_
  rintro e w' (⟨_, ⟨A, c, h1, h2⟩, h3⟩ | ⟨h1, _⟩)
  · exact ⟨A, c, h1, h2, h3⟩
  · exact absurd hok h1
theorem cmp_no {a b : SV} {w : World} (hA : SrcIn w a) (hB : SrcIn w b) (hfa : few a) (hzb : SrcSz b) (hno : ¬ P32.okS a b) :
    Calls Tryd.prog 17 #[.agg #[.slice a.rA a.rules.length a.rc, .slice a.zA a.zones.length a.zc, .slice a.kA a.links.length a.kc, .slice a.hA a.shifts.length a.hc], .agg #[.slice b.rA b.rules.length b.rc, .slice b.zA b.zones.length b.zc, .slice b.kA b.links.length b.kc, .slice b.hA b.shifts.length b.hc]] w fun e w' => e = .returned (.tuple #[.slice none 0 0, .int .i64 2]) ∧ Below w.heap.size w w' := by
  refine (compare_any a b w hA hB hfa hzb).mono ?_
  rintro e w' (⟨h1, _⟩ | ⟨_, h2, h3⟩)
  · exact absurd h1 hno
  · exact ⟨h2, h3⟩
/-- the sources of the examples; where their parts lie is open -/
def ra1 : RV := ⟨⟨#[82]⟩, 0, 0, 0, 0, 0, 0, 3600, 1, (-3600), ⟨#[]⟩⟩
def rb1 : RV := ⟨⟨#[82]⟩, 0, 0, 0, 0, 0, 0, 0, 1, 0, ⟨#[]⟩⟩
def rs : RV := ⟨⟨#[82]⟩, 0, 0, 0, 0, 0, 0, 0, 0, 0, ⟨#[83]⟩⟩
def rn : RV := ⟨⟨#[82]⟩, 0, 0, 0, 0, 0, 0, 0, 0, 0, ⟨#[]⟩⟩
def ea : List EV := [⟨3600, 2, 0, ⟨#[82]⟩, ⟨#[73, 83, 84, 47, 71, 77, 84]⟩, false, 0, 0, 0, 0, 0, 0, 0⟩, ⟨0, 0, 0, ⟨#[]⟩, ⟨#[]⟩, true, 1950, 1, 1, 0, 1, 3600, 1⟩]
def eb : List EV := [⟨0, 2, 0, ⟨#[82]⟩, ⟨#[71, 77, 84, 47, 73, 83, 84]⟩, false, 0, 0, 0, 0, 0, 0, 0⟩, ⟨0, 0, 0, ⟨#[]⟩, ⟨#[]⟩, true, 1950, 1, 1, 0, 1, 0, 1⟩]
def exS (r z k : Nat) (ru : RV) (es : List EV) : SV := ⟨some ⟨r, 0, none⟩, 1, [ru], some ⟨z, 0, none⟩, 1, [⟨(⟨#[90]⟩ : ByteArray), some ⟨k, 0, none⟩, 2, es⟩], none, 0, [], none, 0, []⟩
def exR (r : Nat) (ru : RV) : SV := ⟨some ⟨r, 0, none⟩, 1, [ru], none, 0, [], none, 0, [], none, 0, []⟩
def exZ (z : Nat) (nm : ByteArray) : SV := ⟨none, 0, [], some ⟨z, 0, none⟩, 1, [⟨nm, none, 0, []⟩], none, 0, [], none, 0, []⟩
theorem rv_len (r : RV) : r.cells.length = 11 := rfl
theorem ev_len (r : EV) : r.cells.length = 13 := rfl
theorem zv_len (r : ZV) : r.cells.length = 2 := rfl
theorem cv_len (r : P32.CV) : r.cells.length = 4 := rfl
theorem exS_in {w : World} {r z k : Nat} {ru : RV} {es : List EV} {t1 t2 t3 : TypeId} (he : es.length = 2) (h1 : Blk w r t1 ([ru].flatMap RV.cells).toArray) (h2 : Blk w z t2 #[.string (⟨#[90]⟩ : ByteArray), .slice (some ⟨k, 0, none⟩) 2 2]) (h3 : Blk w k t3 (es.flatMap EV.cells).toArray) : SrcIn w (exS r z k ru es) := by
  refine ⟨cells_of rv_len h1, ?_, CellsIn.nil _ _, CellsIn.nil _ _, ?_⟩
  · refine cells_of (L := [(⟨(⟨#[90]⟩ : ByteArray), some ⟨k, 0, none⟩, 2, es⟩ : ZV)]) (t := t2) zv_len ?_
    show Blk w z t2 #[.string (⟨#[90]⟩ : ByteArray), .slice (some ⟨k, 0, none⟩) es.length 2]
    rw [he]; exact h2
  · intro y hy
    rw [exS, List.mem_singleton] at hy
    subst hy
    exact cells_of ev_len h3
theorem exR_in {w : World} {r : Nat} {ru : RV} {t1 : TypeId} (h1 : Blk w r t1 ([ru].flatMap RV.cells).toArray) : SrcIn w (exR r ru) :=
  ⟨cells_of rv_len h1, CellsIn.nil _ _, CellsIn.nil _ _, CellsIn.nil _ _, fun z hz => by simp [exR] at hz⟩
theorem exZ_in {w : World} {z : Nat} {nm : ByteArray} {t : TypeId} (h : Blk w z t #[.string nm, .slice none 0 0]) : SrcIn w (exZ z nm) := by
  refine ⟨CellsIn.nil _ _, cells_of (L := [(⟨nm, none, 0, []⟩ : ZV)]) (t := t) zv_len h, CellsIn.nil _ _, CellsIn.nil _ _, ?_⟩
  intro y hy
  rw [exZ, List.mem_singleton] at hy
  subst hy
  exact CellsIn.nil _ _
theorem exS_few (r z k : Nat) (ru : RV) (es : List EV) (he : es.length = 2) : few (exS r z k ru es) ∧ SrcSz (exS r z k ru es) := by
  have hm : (2 : Nat) ≤ maxLen := by decide
  constructor
  · refine ⟨by simp [exS], by simp [exS], by simp [exS], by simp [exS], fun y hy => ?_⟩
    rw [exS, List.mem_singleton] at hy
    subst hy
    show es.length ≤ 20
    omega
  · refine ⟨by simp [exS]; omega, by simp [exS]; omega, by simp [exS], by simp [exS], fun y hy => ?_⟩
    rw [exS, List.mem_singleton] at hy
    subst hy
    show es.length ≤ maxLen
    omega
theorem exR_few (r : Nat) (ru : RV) : few (exR r ru) ∧ SrcSz (exR r ru) := by
  have hm : (2 : Nat) ≤ maxLen := by decide
  exact ⟨⟨by simp [exR], by simp [exR], by simp [exR], by simp [exR], fun y hy => by simp [exR] at hy⟩, ⟨by simp [exR]; omega, by simp [exR], by simp [exR], by simp [exR], fun y hy => by simp [exR] at hy⟩⟩
theorem exZ_few (z : Nat) (nm : ByteArray) : few (exZ z nm) ∧ SrcSz (exZ z nm) := by
  have hm : (2 : Nat) ≤ maxLen := by decide
  constructor
  · refine ⟨by simp [exZ], by simp [exZ], by simp [exZ], by simp [exZ], fun y hy => ?_⟩
    rw [exZ, List.mem_singleton] at hy
    subst hy
    simp
  · refine ⟨by simp [exZ], by simp [exZ]; omega, by simp [exZ], by simp [exZ], fun y hy => ?_⟩
    rw [exZ, List.mem_singleton] at hy
    subst hy
    simp
def exL : List P32.CV := [⟨1, 0, 0, 3⟩, ⟨2, 0, 0, 12⟩, ⟨2, 0, 1, 16⟩]
theorem one_at {α : Type} {x : α} {i : Nat} {a : α} (h : [x][i]? = some a) : i = 0 ∧ a = x := by
  match i, h with
  | 0, h => simp at h; exact ⟨rfl, h.symm⟩
theorem ex_ab (r z k r' z' k' : Nat) : P32.okS (exS r z k ra1 ea) (exS r' z' k' rb1 eb) ∧ P32.chS (exS r z k ra1 ea) (exS r' z' k' rb1 eb) = exL := by
  constructor
  · refine ⟨⟨rfl, fun i a b hi ha hb => ?_⟩, rfl, fun i x y hi hx hy => ?_, rfl⟩
    · obtain ⟨rfl, rfl⟩ := one_at ha
      obtain ⟨_, rfl⟩ := one_at hb
      decide +kernel
    · obtain ⟨rfl, rfl⟩ := one_at hx
      obtain ⟨_, rfl⟩ := one_at hy
      refine ⟨rfl, rfl, fun j p q hj hp hq => ?_⟩
      have key : ∀ j < 2, ∀ p ∈ ea[j]?, ∀ q ∈ eb[j]?, P32.sameE p q = true := by decide +kernel
      exact key j hj p hp q hq
  · show P32.ch P32.diffR P32.mkR [ra1] [rb1] 1 ++ ([] ++ P32.ch P32.diffE (P32.mkE 0) ea eb 2) = exL
    decide +kernel
theorem ex_aa (r z k r' z' k' : Nat) : P32.okS (exS r z k ra1 ea) (exS r' z' k' ra1 ea) ∧ P32.chS (exS r z k ra1 ea) (exS r' z' k' ra1 ea) = [] := by
  constructor
  · refine ⟨⟨rfl, fun i a b hi ha hb => ?_⟩, rfl, fun i x y hi hx hy => ?_, rfl⟩
    · obtain ⟨rfl, rfl⟩ := one_at ha
      obtain ⟨_, rfl⟩ := one_at hb
      decide +kernel
    · obtain ⟨rfl, rfl⟩ := one_at hx
      obtain ⟨_, rfl⟩ := one_at hy
      refine ⟨rfl, rfl, fun j p q hj hp hq => ?_⟩
      have key : ∀ j < 2, ∀ p ∈ ea[j]?, ∀ q ∈ ea[j]?, P32.sameE p q = true := by decide +kernel
      exact key j hj p hp q hq
  · show P32.ch P32.diffR P32.mkR [ra1] [ra1] 1 ++ ([] ++ P32.ch P32.diffE (P32.mkE 0) ea ea 2) = []
    decide +kernel
theorem ex_letters (r r' : Nat) : ¬ P32.okS (exR r rs) (exR r' rn) := fun q => by
  have := q.1.2 0 rs rn (show 0 < 1 by decide) rfl rfl
  revert this
  decide +kernel
theorem ex_zones (z z' : Nat) : ¬ P32.okS (exZ z ⟨#[65]⟩) (exZ z' ⟨#[66]⟩) := fun q => by
  have := (q.2.2.1 0 _ _ (show 0 < 1 by decide) rfl rfl).1
  revert this
  decide
theorem calls_gen {P : Program} {f : FuncId} {args : Array Value} {w : World} {post : Ending → World → Prop} (Φ : World → Prop) (h : Φ w) (k : ∀ W, Φ W → Calls P f args W post) : Calls P f args w post := k w h
theorem text_two : P32.text [⟨1, 0, 0, 3⟩, ⟨2, 0, 0, 12⟩] = ([114, 117, 108, 101, 32, 48, 32, 115, 97, 118, 101, 32, 97, 116, 10, 101, 114, 97, 32, 48, 32, 48, 32, 111, 102, 102, 32, 102, 111, 114, 109, 97, 116, 10], 0) := by
  rw [text_ok (by intro c hc; simp only [List.mem_cons, List.not_mem_nil, or_false] at hc; rcases hc with rfl | rfl <;> decide)]
  have d : Lib.decDigits 0 = [48] := by rw [Lib.decDigits, dif_pos (by decide)]; rfl
  simp only [List.flatMap_cons, List.flatMap_nil, P32.line, P32.lineR, P32.lineE, Int.toNat_zero, d]
  decide +kernel
theorem text_bad (x : Int) (h : ¬ P32.right ⟨1, 0, 0, x⟩) : P32.text [⟨1, 0, 0, x⟩] = ([], 2) := if_neg (fun q => h (q _ (List.mem_singleton.2 rfl)))
theorem CellsIn.take {α : Type} {m : Nat} {f : α → List Value} {w : World} {A : Option Addr} {L : List α} (h : CellsIn m f w A L) (n : Nat) : CellsIn m f w A (L.take n) := by
  intro k r hr
  refine h k r ?_
  rw [List.getElem?_take] at hr
  split at hr
  · exact hr
  · cases hr

set_option maxRecDepth 100000 in
set_option maxHeartbeats 16000000 in
theorem works32_any (w : World) (hv : Vars w) : Calls Tryd.prog 16 #[] w fun e w' => e = .returned (.bool true) ∧ Below w.heap.size w w' := by
  go_enter Tryd.func16, Tryd.ntmps16
  go_wp2_with fail
  refine calls_gen (fun W => Blk W (w.heap.size + 2) 46 ([ra1].flatMap RV.cells).toArray ∧ Blk W (w.heap.size + 3) 58 (ea.flatMap EV.cells).toArray ∧ Blk W (w.heap.size + 4) 53 #[.string ⟨#[90]⟩, .slice (some ⟨w.heap.size + 3, 0, none⟩) 2 2] ∧ Blk W (w.heap.size + 5) 27 #[.slice (some ⟨w.heap.size + 2, 0, none⟩) 1 1, .slice (some ⟨w.heap.size + 4, 0, none⟩) 1 1, .slice none 0 0, .slice none 0 0] ∧ Blk W (w.heap.size + 6) 46 ([rb1].flatMap RV.cells).toArray ∧ Blk W (w.heap.size + 7) 58 (eb.flatMap EV.cells).toArray ∧ Blk W (w.heap.size + 8) 53 #[.string ⟨#[90]⟩, .slice (some ⟨w.heap.size + 7, 0, none⟩) 2 2] ∧ Below w.heap.size w W) ?_ ?_
  · exact ⟨(((((((Blk.newAt _ (w.heap.size + 2) (by simp) _ _).alloc _).alloc _).alloc _).alloc _).alloc _).alloc _).alloc _, ((((((Blk.newAt _ (w.heap.size + 3) (by simp) _ _).alloc _).alloc _).alloc _).alloc _).alloc _).alloc _, (((((Blk.newAt _ (w.heap.size + 4) (by simp) _ _).alloc _).alloc _).alloc _).alloc _).alloc _, ((((Blk.newAt _ (w.heap.size + 5) (by simp) _ _).alloc _).alloc _).alloc _).alloc _, (((Blk.newAt _ (w.heap.size + 6) (by simp) _ _).alloc _).alloc _).alloc _, ((Blk.newAt _ (w.heap.size + 7) (by simp) _ _).alloc _).alloc _, (Blk.newAt _ (w.heap.size + 8) (by simp) _ _).alloc _, ((((((((((Below.refl w.heap.size w).alloc (Nat.le_refl _) _).alloc (by simp <;> omega) _).alloc (by simp <;> omega) _).alloc (by simp <;> omega) _).alloc (by simp <;> omega) _).alloc (by simp <;> omega) _).alloc (by simp <;> omega) _).alloc (by simp <;> omega) _).alloc (by simp <;> omega) _).alloc (by simp <;> omega) _⟩
  rintro W ⟨hb2, hb3, hb4, hb5, hb6, hb7, hb8, hb0⟩
  refine (cmp_ok exL (exS_in (r := w.heap.size + 2) (z := w.heap.size + 4) (k := w.heap.size + 3) (ru := ra1) (es := ea) rfl hb2 hb4 hb3) (exS_in (r := w.heap.size + 6) (z := w.heap.size + 8) (k := w.heap.size + 7) (ru := rb1) (es := eb) rfl hb6 hb8 hb7) (exS_few _ _ _ _ _ rfl).1 (exS_few _ _ _ _ _ rfl).2 (ex_ab _ _ _ _ _ _).1 (ex_ab _ _ _ _ _ _).2).mono ?_
  rintro e w1 ⟨A, c, rfl, hl, hc⟩
  have HB2 := Lib.hid (hb2.below hc hb2.lt)
  have HB3 := Lib.hid (hb3.below hc hb3.lt)
  have HB4 := Lib.hid (hb4.below hc hb4.lt)
  have HB5 := Lib.hid (hb5.below hc hb5.lt)
  have HW1 := Lib.hid (hb0.trans (hc.mono hb0.size))
  have HL := Lib.hid hl
  clear hl hc hb0 hb2 hb3 hb4 hb5 hb6 hb7 hb8
  go_wp2_with fail
  have HWN := Lib.hid (show CellsIn 4 P32.CV.cells (w1.alloc (.cells #[.int .i64 1, .int .i64 0, .int .i64 0, .int .i64 3, .int .i64 2, .int .i64 0, .int .i64 0, .int .i64 12, .int .i64 2, .int .i64 0, .int .i64 1, .int .i64 16] 50)) (some ⟨w1.heap.size, 0, none⟩) exL from cells_of (t := 50) cv_len (Blk.new w1 50 #[.int .i64 1, .int .i64 0, .int .i64 0, .int .i64 3, .int .i64 2, .int .i64 0, .int .i64 0, .int .i64 12, .int .i64 2, .int .i64 0, .int .i64 1, .int .i64 16]))
  have hb1 := HW1.out.alloc HW1.out.size (.cells #[.int .i64 1, .int .i64 0, .int .i64 0, .int .i64 3, .int .i64 2, .int .i64 0, .int .i64 0, .int .i64 12, .int .i64 2, .int .i64 0, .int .i64 1, .int .i64 16] 50)
  have cT : Hid (Calls Tryd.prog 20 #[.slice (some ⟨w1.heap.size, 0, none⟩) 2 3] (w1.alloc (.cells #[.int .i64 1, .int .i64 0, .int .i64 0, .int .i64 3, .int .i64 2, .int .i64 0, .int .i64 0, .int .i64 12, .int .i64 2, .int .i64 0, .int .i64 1, .int .i64 16] 50)) fun e w' => e = .returned (.tuple #[.string ⟨#[114, 117, 108, 101, 32, 48, 32, 115, 97, 118, 101, 32, 97, 116, 10, 101, 114, 97, 32, 48, 32, 48, 32, 111, 102, 102, 32, 102, 111, 114, 109, 97, 116, 10]⟩, .int .i64 0]) ∧ Below (w1.alloc (.cells #[.int .i64 1, .int .i64 0, .int .i64 0, .int .i64 3, .int .i64 2, .int .i64 0, .int .i64 0, .int .i64 12, .int .i64 2, .int .i64 0, .int .i64 1, .int .i64 16] 50)).heap.size (w1.alloc (.cells #[.int .i64 1, .int .i64 0, .int .i64 0, .int .i64 3, .int .i64 2, .int .i64 0, .int .i64 0, .int .i64 12, .int .i64 2, .int .i64 0, .int .i64 1, .int .i64 16] 50)) w') := Lib.hid (by
    have q := rep_text (some ⟨w1.heap.size, 0, none⟩) 3 [⟨1, 0, 0, 3⟩, ⟨2, 0, 0, 12⟩] _ (by decide) (HWN.out.take 2) (by intro c hc; simp only [List.mem_cons, List.not_mem_nil, or_false] at hc; rcases hc with rfl | rfl <;> decide) (hv.below hb1)
    rw [text_two] at q
    exact q)
  refine cT.out.mono ?_
  rintro e w2 ⟨rfl, hc⟩
  have hb2 := hb1.trans (hc.mono hb1.size)
  have hd : Below w1.heap.size w1 w2 := ((Below.refl w1.heap.size w1).alloc (Nat.le_refl _) (.cells #[.int .i64 1, .int .i64 0, .int .i64 0, .int .i64 3, .int .i64 2, .int .i64 0, .int .i64 0, .int .i64 12, .int .i64 2, .int .i64 0, .int .i64 1, .int .i64 16] 50)).trans (hc.mono (by simp))
  have hB2 := HB2.out.below hd HB2.out.lt
  have hB3 := HB3.out.below hd HB3.out.lt
  have hB4 := HB4.out.below hd HB4.out.lt
  have hB5 := HB5.out.below hd HB5.out.lt
  have hL := HL.out.below hd; have hWN := HWN.out.below hc
  clear hc hd hb1 HB2 HB3 HB4 HB5 HL HWN HW1 cT
  have HB2 := Lib.hid hB2; have HB3 := Lib.hid hB3; have HB4 := Lib.hid hB4; have HB5 := Lib.hid hB5; have HL := Lib.hid hL; have HWN := Lib.hid hWN; have HW := Lib.hid hb2
  clear hB2 hB3 hB4 hB5 hL hWN hb2
  have hb1 := HW.out.alloc HW.out.size (.cells #[.int .i64 1, .int .i64 0, .int .i64 0, .int .i64 0] 50)
  have cT : Hid (Calls Tryd.prog 20 #[.slice (some ⟨w2.heap.size, 0, none⟩) 1 1] (w2.alloc (.cells #[.int .i64 1, .int .i64 0, .int .i64 0, .int .i64 0] 50)) fun e w' => e = .returned (.tuple #[.string (str []), .int .i64 2]) ∧ Below (w2.alloc (.cells #[.int .i64 1, .int .i64 0, .int .i64 0, .int .i64 0] 50)).heap.size (w2.alloc (.cells #[.int .i64 1, .int .i64 0, .int .i64 0, .int .i64 0] 50)) w') := Lib.hid (by
    have q := rep_text (some ⟨w2.heap.size, 0, none⟩) 1 [⟨1, 0, 0, 0⟩] _ (by decide) (cells_of (t := 50) cv_len (Blk.new w2 50 #[.int .i64 1, .int .i64 0, .int .i64 0, .int .i64 0])) (by intro c hc; rw [List.mem_singleton] at hc; subst hc; decide) (hv.below hb1)
    rw [text_bad 0 (by decide)] at q
    exact q)
  go_wp2_with fail
  refine cT.out.mono ?_
  rintro e w3 ⟨rfl, hc⟩
  have hb2 := hb1.trans (hc.mono hb1.size)
  have hd : Below w2.heap.size w2 w3 := ((Below.refl w2.heap.size w2).alloc (Nat.le_refl _) (.cells #[.int .i64 1, .int .i64 0, .int .i64 0, .int .i64 0] 50)).trans (hc.mono (by simp))
  have hB2 := HB2.out.below hd HB2.out.lt
  have hB3 := HB3.out.below hd HB3.out.lt
  have hB4 := HB4.out.below hd HB4.out.lt
  have hB5 := HB5.out.below hd HB5.out.lt
  have hL := HL.out.below hd; have hWN := HWN.out.below hd
  clear hc hd hb1 HB2 HB3 HB4 HB5 HL HWN HW cT
  have HB2 := Lib.hid hB2; have HB3 := Lib.hid hB3; have HB4 := Lib.hid hB4; have HB5 := Lib.hid hB5; have HL := Lib.hid hL; have HWN := Lib.hid hWN; have HW := Lib.hid hb2
  clear hB2 hB3 hB4 hB5 hL hWN hb2
  have hb1 := HW.out.alloc HW.out.size (.cells #[.int .i64 1, .int .i64 0, .int .i64 0, .int .i64 4] 50)
  have cT : Hid (Calls Tryd.prog 20 #[.slice (some ⟨w3.heap.size, 0, none⟩) 1 1] (w3.alloc (.cells #[.int .i64 1, .int .i64 0, .int .i64 0, .int .i64 4] 50)) fun e w' => e = .returned (.tuple #[.string (str []), .int .i64 2]) ∧ Below (w3.alloc (.cells #[.int .i64 1, .int .i64 0, .int .i64 0, .int .i64 4] 50)).heap.size (w3.alloc (.cells #[.int .i64 1, .int .i64 0, .int .i64 0, .int .i64 4] 50)) w') := Lib.hid (by
    have q := rep_text (some ⟨w3.heap.size, 0, none⟩) 1 [⟨1, 0, 0, 4⟩] _ (by decide) (cells_of (t := 50) cv_len (Blk.new w3 50 #[.int .i64 1, .int .i64 0, .int .i64 0, .int .i64 4])) (by intro c hc; rw [List.mem_singleton] at hc; subst hc; decide) (hv.below hb1)
    rw [text_bad 4 (by decide)] at q
    exact q)
  go_wp2_with fail
  refine cT.out.mono ?_
  rintro e w4 ⟨rfl, hc⟩
  have hb2 := hb1.trans (hc.mono hb1.size)
  have hd : Below w3.heap.size w3 w4 := ((Below.refl w3.heap.size w3).alloc (Nat.le_refl _) (.cells #[.int .i64 1, .int .i64 0, .int .i64 0, .int .i64 4] 50)).trans (hc.mono (by simp))
  have hB2 := HB2.out.below hd HB2.out.lt
  have hB3 := HB3.out.below hd HB3.out.lt
  have hB4 := HB4.out.below hd HB4.out.lt
  have hB5 := HB5.out.below hd HB5.out.lt
  have hL := HL.out.below hd; have hWN := HWN.out.below hd
  clear hc hd hb1 HB2 HB3 HB4 HB5 HL HWN HW cT
  have HB2 := Lib.hid hB2; have HB3 := Lib.hid hB3; have HB4 := Lib.hid hB4; have HB5 := Lib.hid hB5; have HL := Lib.hid hL; have HWN := Lib.hid hWN; have HW := Lib.hid hb2
  clear hB2 hB3 hB4 hB5 hL hWN hb2
  have s0 := (HB5.out.cell 0).trans rfl
  have s1 := (HB5.out.cell 1).trans rfl
  have s2 := (HB5.out.cell 2).trans rfl
  have s3 := (HB5.out.cell 3).trans rfl
  go_wp2_with fail
  clear s0 s1 s2 s3
  refine (cmp_ok [] (exS_in (r := w.heap.size + 2) (z := w.heap.size + 4) (k := w.heap.size + 3) (ru := ra1) (es := ea) rfl HB2.out HB4.out HB3.out) (exS_in (r := w.heap.size + 2) (z := w.heap.size + 4) (k := w.heap.size + 3) (ru := ra1) (es := ea) rfl HB2.out HB4.out HB3.out) (exS_few _ _ _ _ _ rfl).1 (exS_few _ _ _ _ _ rfl).2 (ex_aa _ _ _ _ _ _).1 (ex_aa _ _ _ _ _ _).2).mono ?_
  rintro e w5 ⟨A5, c5, rfl, _, hc⟩
  have hL := HL.out.below hc; have hWN := HWN.out.below hc; have hb2 := HW.out.trans (hc.mono HW.out.size)
  clear hc HB2 HB3 HB4 HB5 HL HWN HW
  have HL := Lib.hid hL; have HWN := Lib.hid hWN; have HW := Lib.hid hb2
  clear hL hWN hb2
  go_wp2_with fail
  refine calls_gen (fun W => Blk W w5.heap.size 46 ([rs].flatMap RV.cells).toArray ∧ Blk W (w5.heap.size + 2) 46 ([rn].flatMap RV.cells).toArray ∧ Below w5.heap.size w5 W) ?_ ?_
  · exact ⟨((Blk.new _ _ _).alloc _).alloc _, Blk.newAt _ (w5.heap.size + 2) (by simp) _ _, (((Below.refl w5.heap.size w5).alloc (Nat.le_refl _) _).alloc (by simp <;> omega) _).alloc (by simp <;> omega) _⟩
  rintro W5 ⟨r1, r2, hd⟩
  refine (cmp_no (exR_in (ru := rs) r1) (exR_in (ru := rn) r2) (exR_few _ _).1 (exR_few _ _).2 (ex_letters _ _)).mono ?_
  rintro e w6 ⟨rfl, hc0⟩
  have hc := hd.trans (hc0.mono hd.size)
  have hL := HL.out.below hc; have hWN := HWN.out.below hc; have hb2 := HW.out.trans (hc.mono HW.out.size)
  clear hc hc0 hd r1 r2 HL HWN HW
  have HL := Lib.hid hL; have HWN := Lib.hid hWN; have HW := Lib.hid hb2
  clear hL hWN hb2
  go_wp2_with fail
  refine calls_gen (fun W => Blk W w6.heap.size 53 #[.string ⟨#[65]⟩, .slice none 0 0] ∧ Blk W (w6.heap.size + 1) 53 #[.string ⟨#[66]⟩, .slice none 0 0] ∧ Below w6.heap.size w6 W) ?_ ?_
  · exact ⟨(Blk.new _ _ _).alloc _, Blk.newAt _ (w6.heap.size + 1) (by simp) _ _, ((Below.refl w6.heap.size w6).alloc (Nat.le_refl _) _).alloc (by simp) _⟩
  rintro W6 ⟨r1, r2, hd⟩
  refine (cmp_no (exZ_in (nm := ⟨#[65]⟩) r1) (exZ_in (nm := ⟨#[66]⟩) r2) (exZ_few _ _).1 (exZ_few _ _).2 (ex_zones _ _)).mono ?_
  rintro e w7 ⟨rfl, hc0⟩
  have hc := hd.trans (hc0.mono hd.size)
  have cS := Lib.hid (same_any A (some ⟨w1.heap.size, 0, none⟩) c 3 exL exL true w7 (by simp) (HL.out.below hc) (HWN.out.below hc) (by decide) (by decide))
  have HW7 := Lib.hid (HW.out.trans (hc.mono HW.out.size))
  clear hc hc0 hd r1 r2 HL HWN HW
  go_wp2_with fail
  refine cS.out.mono ?_
  rintro e w8 ⟨rfl, hq⟩
  have HQ := Lib.hid (HW7.out.trans (hq.below w.heap.size))
  clear hq cS HW7
  go_wp2_with fail
  go_ret
  exact ⟨rfl, HQ.out⟩
end Go.Proofs.YtggdfgdnpicepaaDoor
