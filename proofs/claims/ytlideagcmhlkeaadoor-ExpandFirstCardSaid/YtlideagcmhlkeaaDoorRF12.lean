/- Texts of one proof, one behind the other: Mad23; RinvY; Two30; Box2; Laid21; Laid23. -/
import Derived.Test.YtlideagcmhlkeaaDoorRF11
import Derived.BigRegion
import Derived.IntWalk
import Derived.Test.YtlideagcmhlkeaaDoorRows
import Derived.Lib.LaidTab
import Derived.Stop.LaidErr

/- The walk of Draft.Made (chapter 23): the source that a draft makes. DRAFT. -/
namespace Go.Proofs.YtlideagcmhlkeaaDoor
open Go.RowKit Go.Lib
set_option linter.unusedVariables false
set_option linter.unusedSimpArgs false

/-- where the loop over the sets stands; b: the rules are appended -/
structure Em (w W : World) (d : D23) (rA : Option Addr) (rc : Nat) (R : List RV) (b : Bool) (W0 : World) : Prop where
  src : Blk W (w.heap.size) 26 #[.slice d.sA d.sets.length d.sc, .slice d.zA d.zones.length d.zc, .slice d.lA d.links.length d.lc]
  res : Blk W (w.heap.size + 1) 32 #[.slice none 0 0, .slice none 0 0, .slice none 0 0, .slice none 0 0]
  own : ∃ v, Blk W (w.heap.size + 1 + 1) 32 #[v, .slice none 0 0, .slice none 0 0, .slice none 0 0] ∧ (b = false → v = .slice rA R.length rc)
  bel : Below w.heap.size w W
  le : W0.heap.size ≤ W.heap.size
  ahead : b = false → RowOf W (w.heap.size + 1 + 1 + 1) 83 11 RV.cells rA rc R ∧ Below W0.heap.size W0 W
theorem Em.or {w W W0 : World} {d : D23} {rA : Option Addr} {rc : Nat} {R : List RV} {b x : Bool} (h : Em w W d rA rc R b W0) : Em w W d rA rc R (b || x) W0 :=
  ⟨h.src, h.res, by obtain ⟨v, h1, h2⟩ := h.own; exact ⟨v, h1, fun q => h2 (Bool.or_eq_false_iff.1 q).1⟩, h.bel, h.le, fun q => h.ahead (Bool.or_eq_false_iff.1 q).1⟩
theorem Em.below {w W W' W0 : World} {d : D23} {rA : Option Addr} {rc : Nat} {R : List RV} {b : Bool} (h : Em w W d rA rc R b W0) (hb : Below W.heap.size W W') : Em w W' d rA rc R b W0 :=
  ⟨h.src.below hb h.src.lt, h.res.below hb h.res.lt, by obtain ⟨v, h1, h2⟩ := h.own; exact ⟨v, h1.below hb h1.lt, h2⟩, h.bel.trans (hb.mono h.bel.size), Nat.le_trans h.le hb.size, fun q => ⟨(h.ahead q).1.below hb, (h.ahead q).2.trans (hb.mono h.le)⟩⟩
theorem Em.grown {w W W' W0 : World} {d : D23} {rA : Option Addr} {rc : Nat} {R : List RV} (h : Em w W d rA rc R false W0) (hz : RowOf W (w.heap.size + 1 + 1 + 1) 83 11 RV.cells rA rc R) (hgr : W.grownBy W' (Value.slice rA R.length rc).ownBlock) : Em w W' d rA rc R true W0 :=
  ⟨blk_grown h.src hz hgr (by omega), blk_grown h.res hz hgr (by omega), by obtain ⟨v, h1, h2⟩ := h.own; exact ⟨v, blk_grown h1 hz hgr (by omega), fun q => by cases q⟩, own_grown h.bel hz hgr h.bel.size (by omega), Nat.le_trans h.le hgr.size, fun q => by cases q⟩
theorem Em.set1 {w W W0 : World} {d : D23} {rA : Option Addr} {rc : Nat} {R : List RV} (h : Em w W d rA rc R true W0) {v : Value} (hv : Blk W (w.heap.size + 1 + 1) 32 #[v, .slice none 0 0, .slice none 0 0, .slice none 0 0]) (u : Value) : Em w (W.setCell ⟨w.heap.size + 1 + 1, 0, none⟩ u) d rA rc R true W0 :=
  ⟨h.src.far (by show _ ≠ w.heap.size + 1 + 1; omega) u, h.res.far (by show _ ≠ w.heap.size + 1 + 1; omega) u, ⟨u, hv.set_ 0 u, fun q => by cases q⟩, h.bel.setCell (by show w.heap.size ≤ w.heap.size + 1 + 1; omega) u, by simpa using h.le, fun q => by cases q⟩
/-- where the loop over the zones stands -/
structure Zp (w w1 W : World) (rA : Option Addr) (rc NR : Nat) (yA : Option Addr) (yc : Nat) (Y : List ZV) (N : Nat) : Prop where
  kx : KX w1.heap.size (w.heap.size + 1 + 1) w1 W
  own : Blk W (w.heap.size + 1 + 1) 32 #[.slice rA NR rc, .slice yA Y.length yc, .slice none 0 0, .slice none 0 0]
  zrow : RowOf W w1.heap.size 39 2 ZV.cells yA yc Y
  eras : ∀ y ∈ Y, RowOf W w1.heap.size 47 13 EV.cells y.A y.c y.eras
  good : ∀ y ∈ Y, (1 ≤ y.eras.length ∧ y.eras.length ≤ 4) ∧ ∀ e ∈ y.eras, GE23 N e
  bel : Below w.heap.size w W
theorem Zp.below {w w1 W W' : World} {rA yA : Option Addr} {rc NR yc N : Nat} {Y : List ZV} (h : Zp w w1 W rA rc NR yA yc Y N) (hb : Below W.heap.size W W') : Zp w w1 W' rA rc NR yA yc Y N :=
  ⟨h.kx.below hb, h.own.below hb h.own.lt, h.zrow.below hb, fun y hy => (h.eras y hy).below hb, h.good, h.bel.trans (hb.mono h.bel.size)⟩
/-- one zone more -/
theorem Zp.snoc {w w1 W W' : World} {rA yA yA' : Option Addr} {rc NR yc yc' N : Nat} {Y : List ZV} {y : ZV} (h : Zp w w1 W rA rc NR yA yc Y N) (hw : w.heap.size + 3 ≤ w1.heap.size) (hg : W.grownBy W' (Value.slice yA Y.length yc).ownBlock) (hr : RowOf W' w1.heap.size 39 2 ZV.cells yA' yc' (Y ++ [y]))
    (he : RowOf W w1.heap.size 47 13 EV.cells y.A y.c y.eras) (hy : (1 ≤ y.eras.length ∧ y.eras.length ≤ 4) ∧ ∀ e ∈ y.eras, GE23 N e) : Zp w w1 (W'.setCell ⟨w.heap.size + 1 + 1, 1, none⟩ (.slice yA' (Y.length + 1) yc')) rA rc NR yA' yc' (Y ++ [y]) N := by
  have hl : Y.length + 1 = (Y ++ [y]).length := by simp
  rw [hl]
  have o := blk_grown h.own h.zrow hg (show w.heap.size + 1 + 1 < w1.heap.size by omega)
  have q := GS.set_ o 1 (.slice yA' (Y ++ [y]).length yc')
  exact ⟨(h.kx.grown h.zrow hg (Nat.le_refl _)).set_ (.inl rfl) _, o.set_ 1 _, q.row (by decide) hr,
    fun z hz => q.row (by decide) (row_other (by
      rcases List.mem_append.1 hz with hz | hz
      · exact h.eras z hz
      · rw [List.mem_singleton] at hz; subst hz; exact he) h.zrow (by decide) hg), fun z hz => by
      rcases List.mem_append.1 hz with hz | hz
      · exact h.good z hz
      · rw [List.mem_singleton] at hz; subst hz; exact hy, (own_grown h.bel h.zrow hg h.bel.size (by omega)).setCell (by show w.heap.size ≤ w.heap.size + 1 + 1; omega) _⟩
/-- where the loop over a zone's eras stands -/
structure Ip (wo wi W : World) (zb : Nat) (nm : ByteArray) (eA : Option Addr) (ec : Nat) (Es : List EV) (N : Nat) : Prop where
  bel : Below wo.heap.size wo W
  kx : KX wi.heap.size zb wi W
  box : Blk W zb 39 #[.string nm, .slice eA Es.length ec]
  row : RowOf W wi.heap.size 47 13 EV.cells eA ec Es
  good : ∀ e ∈ Es, GE23 N e
/-- the same while the eras' region draws; b: the era is appended -/
structure Im (wo wi W : World) (zb : Nat) (nm : ByteArray) (eA : Option Addr) (ec : Nat) (Es : List EV) (xb : Nat) (xs : Array Value) (b : Bool) (W0 : World) : Prop where
  bel : Below wo.heap.size wo W
  kx : KX wi.heap.size zb wi W
  own : ∃ v, Blk W zb 39 #[.string nm, v] ∧ (b = false → v = .slice eA Es.length ec)
  x : Blk W xb 104 xs
  le : W0.heap.size ≤ W.heap.size
  ahead : b = false → RowOf W wi.heap.size 47 13 EV.cells eA ec Es ∧ Below W0.heap.size W0 W
section
variable {wo wi W W' W0 : World} {zb ec xb : Nat} {nm : ByteArray} {eA : Option Addr} {Es : List EV} {xs : Array Value}
theorem Im.or {b x : Bool} (h : Im wo wi W zb nm eA ec Es xb xs b W0) : Im wo wi W zb nm eA ec Es xb xs (b || x) W0 :=
  ⟨h.bel, h.kx, by obtain ⟨v, h1, h2⟩ := h.own; exact ⟨v, h1, fun q => h2 (Bool.or_eq_false_iff.1 q).1⟩, h.x, h.le, fun q => h.ahead (Bool.or_eq_false_iff.1 q).1⟩
theorem Im.below {b : Bool} (h : Im wo wi W zb nm eA ec Es xb xs b W0) (hb : Below W.heap.size W W') : Im wo wi W' zb nm eA ec Es xb xs b W0 :=
  ⟨h.bel.trans (hb.mono h.bel.size), h.kx.below hb, by obtain ⟨v, h1, h2⟩ := h.own; exact ⟨v, h1.below hb h1.lt, h2⟩, h.x.below hb h.x.lt, Nat.le_trans h.le hb.size, fun q => ⟨(h.ahead q).1.below hb, (h.ahead q).2.trans (hb.mono h.le)⟩⟩
theorem Im.grown (h : Im wo wi W zb nm eA ec Es xb xs false W0) (hw : wo.heap.size ≤ wi.heap.size) (hz : RowOf W wi.heap.size 47 13 EV.cells eA ec Es) (hgr : W.grownBy W' (Value.slice eA Es.length ec).ownBlock) : Im wo wi W' zb nm eA ec Es xb xs true W0 :=
  ⟨own_grown h.bel hz hgr h.bel.size hw, h.kx.grown hz hgr (Nat.le_refl _), by obtain ⟨v, h1, h2⟩ := h.own; exact ⟨v, blk_other h1 hz (by decide) hgr, fun q => by cases q⟩, blk_other h.x hz (by decide) hgr, Nat.le_trans h.le hgr.size, fun q => by cases q⟩
theorem Im.set1 (h : Im wo wi W zb nm eA ec Es xb xs true W0) (hw : wo.heap.size ≤ zb) (hx : xb ≠ zb) {v : Value} (hv : Blk W zb 39 #[.string nm, v]) (u : Value) : Im wo wi (W.setCell ⟨zb, 1, none⟩ u) zb nm eA ec Es xb xs true W0 :=
  ⟨h.bel.setCell hw u, h.kx.set_ (.inl rfl) u, ⟨u, hv.set_ 1 u, fun q => by cases q⟩, h.x.far hx u, by simpa using h.le, fun q => by cases q⟩
end
/-- where the loop over the links stands -/
structure Lp (w wz W : World) (rv zv : Value) (kA : Option Addr) (kc : Nat) (K : List KV) : Prop where
  bel : Below w.heap.size w W
  kx : KX wz.heap.size (w.heap.size + 1 + 1) wz W
  box : Blk W (w.heap.size + 1 + 1) 32 #[rv, zv, .slice kA K.length kc, .slice none 0 0]
  row : RowOf W wz.heap.size 94 2 KV.cells kA kc K
/-- the same while the links' region draws; b: the link is appended -/
structure Lm (w wz W : World) (rv zv : Value) (kA : Option Addr) (kc : Nat) (K : List KV) (b : Bool) (W0 : World) : Prop where
  bel : Below w.heap.size w W
  kx : KX wz.heap.size (w.heap.size + 1 + 1) wz W
  own : ∃ v, Blk W (w.heap.size + 1 + 1) 32 #[rv, zv, v, .slice none 0 0] ∧ (b = false → v = .slice kA K.length kc)
  le : W0.heap.size ≤ W.heap.size
  ahead : b = false → RowOf W wz.heap.size 94 2 KV.cells kA kc K ∧ Below W0.heap.size W0 W
section
variable {w wz W W' W0 : World} {rv zv : Value} {kA : Option Addr} {kc : Nat} {K : List KV}
theorem Lp.below (h : Lp w wz W rv zv kA kc K) (hb : Below W.heap.size W W') : Lp w wz W' rv zv kA kc K := ⟨h.bel.trans (hb.mono h.bel.size), h.kx.below hb, h.box.below hb h.box.lt, h.row.below hb⟩
theorem Lp.mid (h : Lp w wz W rv zv kA kc K) : Lm w wz W rv zv kA kc K false W := ⟨h.bel, h.kx, ⟨_, h.box, fun _ => rfl⟩, Nat.le_refl _, fun _ => ⟨h.row, Below.refl _ _⟩⟩
theorem Lm.or {b x : Bool} (h : Lm w wz W rv zv kA kc K b W0) : Lm w wz W rv zv kA kc K (b || x) W0 :=
  ⟨h.bel, h.kx, by obtain ⟨v, h1, h2⟩ := h.own; exact ⟨v, h1, fun q => h2 (Bool.or_eq_false_iff.1 q).1⟩, h.le, fun q => h.ahead (Bool.or_eq_false_iff.1 q).1⟩
theorem Lm.below {b : Bool} (h : Lm w wz W rv zv kA kc K b W0) (hb : Below W.heap.size W W') : Lm w wz W' rv zv kA kc K b W0 :=
  ⟨h.bel.trans (hb.mono h.bel.size), h.kx.below hb, by obtain ⟨v, h1, h2⟩ := h.own; exact ⟨v, h1.below hb h1.lt, h2⟩, Nat.le_trans h.le hb.size, fun q => ⟨(h.ahead q).1.below hb, (h.ahead q).2.trans (hb.mono h.le)⟩⟩
theorem Lm.grown (h : Lm w wz W rv zv kA kc K false W0) (hw : w.heap.size ≤ wz.heap.size) (hz : RowOf W wz.heap.size 94 2 KV.cells kA kc K) (hgr : W.grownBy W' (Value.slice kA K.length kc).ownBlock) : Lm w wz W' rv zv kA kc K true W0 :=
  ⟨own_grown h.bel hz hgr h.bel.size hw, h.kx.grown hz hgr (Nat.le_refl _), by obtain ⟨v, h1, h2⟩ := h.own; exact ⟨v, blk_other h1 hz (by decide) hgr, fun q => by cases q⟩, Nat.le_trans h.le hgr.size, fun q => by cases q⟩
theorem Lm.set1 (h : Lm w wz W rv zv kA kc K true W0) {v : Value} (hv : Blk W (w.heap.size + 1 + 1) 32 #[rv, zv, v, .slice none 0 0]) (u : Value) : Lm w wz (W.setCell ⟨w.heap.size + 1 + 1, 2, none⟩ u) rv zv kA kc K true W0 :=
  ⟨h.bel.setCell (by show w.heap.size ≤ w.heap.size + 1 + 1; omega) u, h.kx.set_ (.inl rfl) u, ⟨u, hv.set_ 2 u, fun q => by cases q⟩, by simpa using h.le, fun q => by cases q⟩
end

theorem rules_sv (D : Nat → List Int) (n : Nat) : SvOk (rulesTo D n) := fun y hy => by
  obtain ⟨r, hr, rfl⟩ := List.mem_map.1 hy
  unfold rulesTo at hr
  obtain ⟨i, _, hi⟩ := List.mem_flatMap.1 hr
  have h1 := (P17.made_good (D i) (rn i)).saves r hi
  have h2 := P17.sv_cases (D i)
  omega
theorem dr_nil (w : World) : Dr w none [] := ⟨by simp, fun k r h => by simp at h, fun n h => by simp at h⟩
set_option maxRecDepth 100000 in
set_option maxHeartbeats 16000000 in
theorem made23_any (d : D23) (w : World) (hd : D23In w d) (hp : VarsP w) : Calls Tryd.prog 13 #[.agg #[.slice d.sA d.sets.length d.sc, .slice d.zA d.zones.length d.zc, .slice d.lA d.links.length d.lc]] w fun x w' => ∃ t : SV, x = .returned (.agg #[.slice t.rA t.rules.length t.rc, .slice t.zA t.zones.length t.zc, .slice t.kA t.links.length t.kc, .slice t.hA t.shifts.length t.hc]) ∧ SrcG w' t ∧ Good23 t ∧ Below w.heap.size w w' := by
  have hl := hd.lens
  unfold maxLen at hl
  have i1 : (d.sets.length : Int) ≤ 9223372036854775807 := by omega
  have i2 : (d.zones.length : Int) ≤ 9223372036854775807 := by omega
  have i3 : (d.links.length : Int) ≤ 9223372036854775807 := by omega
  obtain ⟨N, hN, hN1⟩ : ∃ N : Nat, max 1 (min (d.sets.length : Int) 3) = (N : Int) ∧ 1 ≤ N ∧ N ≤ 3 := ⟨(max 1 (min (d.sets.length : Int) 3)).toNat, by omega, by omega, by omega⟩
  have HD := Lib.hid hd; have HN1 := Lib.hid hN1
  have hN3 : (N : Int) ≤ 3 := by omega
  have hb1 := (Below.refl w.heap.size w).alloc (Nat.le_refl _) (.cells #[.slice d.sA d.sets.length d.sc, .slice d.zA d.zones.length d.zc, .slice d.lA d.links.length d.lc] 26)
  have hb2 := hb1.alloc (by simp) (.cells #[.slice none 0 0, .slice none 0 0, .slice none 0 0, .slice none 0 0] 32)
  have hb3 := hb2.alloc (by simp; omega) (.cells #[.slice none 0 0, .slice none 0 0, .slice none 0 0, .slice none 0 0] 32)
  have hE0 := Lib.hid (show Em w _ d none 0 (rulesTo d.dr 0) false _ from ⟨((Blk.new w 26 #[.slice d.sA d.sets.length d.sc, .slice d.zA d.zones.length d.zc, .slice d.lA d.links.length d.lc]).alloc (.cells #[.slice none 0 0, .slice none 0 0, .slice none 0 0, .slice none 0 0] 32)).alloc (.cells #[.slice none 0 0, .slice none 0 0, .slice none 0 0, .slice none 0 0] 32), (Blk.newAt (w.alloc (.cells #[.slice d.sA d.sets.length d.sc, .slice d.zA d.zones.length d.zc, .slice d.lA d.links.length d.lc] 26)) (w.heap.size + 1) (by simp) 32 #[.slice none 0 0, .slice none 0 0, .slice none 0 0, .slice none 0 0]).alloc (.cells #[.slice none 0 0, .slice none 0 0, .slice none 0 0, .slice none 0 0] 32), ⟨_, Blk.newAt ((w.alloc (.cells #[.slice d.sA d.sets.length d.sc, .slice d.zA d.zones.length d.zc, .slice d.lA d.links.length d.lc] 26)).alloc (.cells #[.slice none 0 0, .slice none 0 0, .slice none 0 0, .slice none 0 0] 32)) (w.heap.size + 1 + 1) (by simp) 32 #[.slice none 0 0, .slice none 0 0, .slice none 0 0, .slice none 0 0], fun _ => by simp [rulesTo]⟩, hb3, Nat.le_refl _, fun _ => ⟨World.ownsRow_nil .., Below.refl _ _⟩⟩)
  clear hd hl hb1 hb2 hb3
  go_enter Tryd.func13, Tryd.ntmps13
  go_wp2_with fail
  clear hN
  go_loopw [24] (fun i W => ∃ k : Nat, k ≤ N ∧ i = .int .i64 k ∧ ∃ rA rc, Em w W d rA rc (rulesTo d.dr k) false W ∧ w.heap.size + 1 + 1 + 1 ≤ W.heap.size) (fun i _ => N - (intOf i).toNat)
  case atStart => exact ⟨0, Nat.zero_le _, rfl, none, 0, hE0.out, by simp⟩
  case round =>
    clear hE0
    obtain ⟨k, hk, rfl, rA, rc, hem, hgl⟩ := hrel
    by_cases hlt : k < N
    · have hki : (k : Int) < (N : Int) := by omega
      have hk0 : (0 : Int) ≤ (k : Int) := by omega
      have HLT := Lib.hid hlt; have HGL := Lib.hid hgl
      have hk10 : k < 10 := by omega
      have HRL : Hid ((rulesTo d.dr k).length ≤ 15) := Lib.hid (by have := rulesTo_len d.dr k; omega)
      have HSUM : Hid (∀ W : World, (Op.stringOp .add ⟨#[82]⟩ (str [UInt8.ofNat (48 + k)])).run Tryd.prog W = .ok (.string (rn k)) W) := Lib.hid (cat_run [82] [UInt8.ofNat (48 + k)] (by simp))
      have HZ0 : Hid (∀ K, (Value.slice rA (rulesTo d.dr k).length rc).ownBlock = some K → K < wr.heap.size) := Lib.hid fun K hK => (World.ownsRow.lt (hem.ahead rfl).1 K hK).2
      have cI0 : Hid (∀ W, VarsP W → Calls Tryd.prog 45 #[.int .i64 (k : Int)] W fun e w' => e = .returned (.string (str [UInt8.ofNat (48 + k)])) ∧ Below W.heap.size W w') := Lib.hid fun W h => itoa23 k _ rfl hk10 W h
      obtain ⟨KS, hKS⟩ : ∃ KS, str [UInt8.ofNat (48 + k)] = KS := ⟨_, rfl⟩
      rw [hKS] at HSUM cI0
      have cI := cI0
      have c0 := (hem.src.cell 0).trans rfl
      have HEM := Lib.hid hem
      clear hem hgl hlt hKS cI0
      by_cases hset : k < d.sets.length
      · have hsi : (k : Int) < (d.sets.length : Int) := by omega
        obtain ⟨s, hs⟩ : ∃ s, d.sets[k]? = some s := ⟨_, List.getElem?_eq_getElem hset⟩
        obtain ⟨gs, os, hA, hgs, hcs⟩ := (HD.out.sets.below HEM.out.bel) k s hs
        have HDR0 := Lib.hid (HD.out.draws s (List.mem_of_getElem? hs))
        have HDRK := Lib.hid (show d.dr k = s.2.2 by unfold D23.dr; rw [hs]; rfl)
        obtain ⟨dA, dc, DL⟩ := s
        have HDR := HDR0
        have x0 : wr.cell? ⟨gs, os + k, none⟩ = some (.slice dA DL.length dc) := by have q := hcs 0 _ rfl; simpa using q
        rw [hA] at c0 ⊢
        have HTWO := Lib.hid (P17.made_good DL (rn k)).two; have HFIVE := Lib.hid (P17.made_good DL (rn k)).five
        clear hs hA hgs hcs hset
        go_upto_region 9 with fail
        clear c0 x0
        have hS0 := HEM.out
        refine wp_region_shapeB [(some 37, []), (some 38, [0]), (some 39, []), (some 40, []), (some 41, [3]), (some 42, [4]), (some 43, [2, 5, 4]), (some 44, [1, 6, 6]), (some 45, [0, 1, 2, 3, 4, 5, 6, 7]), (none, [8, 7, 7, 0, 1, 2, 3, 4, 5, 6, 7])] (fun y => { tmps := #[.agg #[.slice (some ⟨gs, os, none⟩) d.sets.length d.sc, .slice d.zA d.zones.length d.zc, .slice d.lA d.links.length d.lc], .pointer (some ⟨w.heap.size, 0, none⟩), .pointer (some ⟨w.heap.size + 1, 0, none⟩), .pointer (some ⟨w.heap.size + 1 + 1, 0, none⟩), .int .i64 N, .int .i64 k, .slice dA DL.length dc, undef, undef, undef, undef, undef, undef, undef, undef, undef, undef, undef, .pointer (some ⟨w.heap.size, 0, none⟩), .slice (some ⟨gs, os, none⟩) d.sets.length d.sc, .int .i64 d.sets.length, .int .i64 (min (d.sets.length : Int) 3), .int .i64 N, .int .i64 N, .int .i64 k, .bool true, .int .i64 k, .int .i64 k, .pointer (some ⟨w.heap.size, 0, none⟩), .slice (some ⟨gs, os, none⟩) d.sets.length d.sc, .int .i64 d.sets.length, .bool true, .pointer (some ⟨w.heap.size, 0, none⟩), .slice (some ⟨gs, os, none⟩) d.sets.length d.sc, .int .i64 k, .pointer (some ⟨gs, os + k, none⟩), .slice dA DL.length dc, y 37, y 38, y 39, y 40, y 41, y 42, y 43, y 44, y 45, u46, undef, undef, undef, undef, undef, undef, undef, undef, undef, undef, undef, undef, undef, undef, undef, undef, undef, undef, undef, undef, undef, undef, undef, undef, undef, undef, undef, undef, undef, undef, undef, undef, undef, undef, undef, undef, undef, undef, undef, undef, undef, undef, undef, undef, undef, undef, undef, undef, undef, undef, undef, undef, undef, undef, undef, undef, undef, undef, undef, undef, undef, undef, undef, undef, undef, undef, undef, undef, undef, undef, undef, undef, undef, undef, undef, undef, undef, undef, undef, undef, undef, undef, undef, undef, undef, undef, undef, undef, undef, undef, undef, undef, undef, undef, undef, undef, undef, undef, undef, undef, undef, undef, undef, undef, undef, undef, undef, undef, undef, undef, undef, undef, undef, undef, undef, undef, undef, undef, undef], defers := [] }) (fun k => match k with | 37 => u37 | 38 => u38 | 39 => u39 | 40 => u40 | 41 => u41 | 42 => u42 | 43 => u43 | 44 => u44 | 45 => u45 | _ => undef) (fun j => j == 6 || j == 7 || j == 9) [.pointer (some ⟨w.heap.size + 1 + 1, 0, none⟩), .slice rA (rulesTo d.dr k).length rc, .slice dA DL.length dc, .int .i64 k, .string KS, .string (rn k), undef, undef, .pointer (some ⟨w.heap.size + 1 + 1, 0, none⟩), undef] (fun j y W => match j with | 6 => ∃ mA mc, y 43 = .slice mA (P17.made DL (rn k)).length mc ∧ RowOf W wr.heap.size 83 11 RV.cells mA mc (P17.made DL (rn k)) | 7 => ∃ rA' rc', y 44 = .slice rA' ((rulesTo d.dr k).length + (P17.made DL (rn k)).length) rc' ∧ RowOf W (w.heap.size + 1 + 1 + 1) 83 11 RV.cells rA' rc' (rulesTo d.dr k ++ P17.made DL (rn k)) | 9 => ∃ rA' rc', RowOf W (w.heap.size + 1 + 1 + 1) 83 11 RV.cells rA' rc' (rulesTo d.dr k ++ P17.made DL (rn k)) ∧ Blk W (w.heap.size + 1 + 1) 32 #[.slice rA' ((rulesTo d.dr k).length + (P17.made DL (rn k)).length) rc', .slice none 0 0, .slice none 0 0, .slice none 0 0] | _ => True) (fun j => match j with | 6 => [43] | 7 => [44] | 9 => [] | _ => []) 7 (fun b => GB 32 83 wr.heap.size b) (fun b W => Em w W d rA rc (rulesTo d.dr k) b wr) (by kernel_rfl) (by kernel_rfl) (by decide +kernel) rfl (hS0.below (Below.refl _ _).drew) ?hput5 ?hloc5 ?hmono5 ?hstep5 ?hdone5
        case hput5 =>
          intro d hd y v
          simp only [List.filterMap_cons, List.filterMap_nil, List.mem_cons, List.not_mem_nil, or_false] at hd
          rcases hd with rfl | rfl | rfl | rfl | rfl | rfl | rfl | rfl | rfl
          all_goals rfl
        case hloc5 =>
          intro j hj y y' W hk hx
          have hj' : j = 6 ∨ j = 7 ∨ j = 9 := by simpa [or_assoc] using hj
          rcases hj' with rfl | rfl | rfl
          · simp only [List.forall_mem_cons, List.not_mem_nil, false_imp_iff, implies_true, and_true] at hk
            show _
            simpa only [hk] using hx
          · simp only [List.forall_mem_cons, List.not_mem_nil, false_imp_iff, implies_true, and_true] at hk
            show _
            simpa only [hk] using hx
          · skip
            exact hx
        case hmono5 =>
          intro j hj hlast b hbq y W W' hg hx
          have hj' : j = 6 ∨ j = 7 ∨ j = 9 := by simpa [or_assoc] using hj
          rcases hj' with rfl | rfl | rfl
          · obtain ⟨mA, mc, h1, h2⟩ := hx; exact ⟨mA, mc, h1, hg.rowA (by decide) (.inr (.inl (Nat.le_refl _))) h2⟩
          · obtain ⟨rA', rc', h1, h2⟩ := hx; have hb1 := hbq rfl; subst hb1; exact ⟨rA', rc', h1, hg.rowA (by decide) (.inr (.inr rfl)) h2⟩
          · exact absurd hlast (by decide)
        case hdone5 =>
          intro y5 W5 hS hd
          have x9 : (fun (y : Nat → Value) (W : World) => ∃ rA' rc', RowOf W (w.heap.size + 1 + 1 + 1) 83 11 RV.cells rA' rc' (rulesTo d.dr k ++ P17.made DL (rn k)) ∧ Blk W (w.heap.size + 1 + 1) 32 #[.slice rA' ((rulesTo d.dr k).length + (P17.made DL (rn k)).length) rc', .slice none 0 0, .slice none 0 0, .slice none 0 0]) y5 W5 := (hd 9 (by decide)).ex rfl
          obtain ⟨rA', rc', h1, h2⟩ := x9
          have HE7 := Lib.hid (show Em w W5 d rA' rc' (rulesTo d.dr (k + 1)) false W5 from by
            rw [rulesTo_succ, HDRK.out]
            exact ⟨hS.src, hS.res, ⟨_, by rw [List.length_append]; exact h2, fun _ => rfl⟩, hS.bel, Nat.le_refl _, fun _ => ⟨h1, Below.refl _ _⟩⟩)
          have HGL7 := Lib.hid (Nat.le_trans HGL.out hS.le)
          clear hd hS h1 h2
          go_wp2_with fail
          go_roundw
          case rel => exact ⟨k + 1, by have := HLT.out; omega, by go_num, rA', rc', HE7.out, HGL7.out⟩
          case measure => have := HLT.out; simp [intOf]; omega
        case hstep5 =>
          refine StepsOkB.cons (StepOkB.known rfl fun y W b hbq hS hd K' hK => ?_) ?_
          · skip
            clear hd
            go_simp
            exact hK.out _ _ rfl (GB.refl _ _ _ _ _) hS.or
          refine StepsOkB.cons (StepOkB.known rfl fun y W b hbq hS hd K' hK => ?_) ?_
          · skip
            have e37 : y 37 = .pointer (some ⟨w.heap.size + 1 + 1, 0, none⟩) := (hd 0 rfl).val rfl rfl
            clear hd
            have hb1 := hbq.1 (.inr rfl)
            subst hb1
            obtain ⟨v, hv, hv2⟩ := hS.own
            obtain rfl := hv2 rfl
            have hc := (hv.cell 0).trans rfl
            go_simp
            exact hK.out _ _ (by first | rfl | (simp only [e37]; done) | (simp only [e37]; rfl)) (GB.refl _ _ _ _ _) hS.or
          refine StepsOkB.cons (StepOkB.known rfl fun y W b hbq hS hd K' hK => ?_) ?_
          · skip
            clear hd
            go_simp
            exact hK.out _ _ rfl (GB.refl _ _ _ _ _) hS.or
          refine StepsOkB.cons (StepOkB.known rfl fun y W b hbq hS hd K' hK => ?_) ?_
          · skip
            clear hd
            go_simp
            exact hK.out _ _ rfl (GB.refl _ _ _ _ _) hS.or
          refine StepsOkB.cons (StepOkB.known rfl fun y W b hbq hS hd K' hK => ?_) ?_
          · skip
            have e40 : y 40 = .int .i64 k := (hd 3 rfl).val rfl rfl
            clear hd
            go_simp
            refine (cI.out _ (hp.below hS.bel)).mono ?_
            rintro e W' ⟨rfl, hc⟩
            go_wp2_with fail
            exact hK.out _ _ (by first | rfl | (simp only [e40]; done) | (simp only [e40]; rfl)) (GB.below _ hc) (hS.below hc).or
          refine StepsOkB.cons (StepOkB.known rfl fun y W b hbq hS hd K' hK => ?_) ?_
          · skip
            have e41 : y 41 = .string KS := (hd 4 rfl).val rfl rfl
            clear hd
            have hsum := HSUM.out
            go_simp
            exact hK.out _ _ (by first | rfl | (simp only [e41]; done) | (simp only [e41]; rfl)) (GB.refl _ _ _ _ _) hS.or
          refine StepsOkB.cons (StepOkB.other rfl fun y W b hbq hS hd K' hK => ?_) ?_
          · skip
            have e39 : y 39 = .slice dA DL.length dc := (hd 2 rfl).val rfl rfl
            have e41 : y 41 = .string KS := (hd 4 rfl).val rfl rfl
            have e42 : y 42 = .string (rn k) := (hd 5 rfl).val rfl rfl
            clear hd
            go_simp
            refine (made17_any dA dc DL (rn k) W (HDR.out.below hS.bel)).mono ?_
            rintro e W' ⟨⟨v, rfl, hrow⟩, hc⟩
            obtain ⟨mA, mc, rfl⟩ := row_is hrow
            go_wp2_with fail
            have hle := hS.le
            exact hK.out _ _ _ (by first | rfl | (simp only [e39, e41, e42]; done) | (simp only [e39, e41, e42]; rfl)) (GB.below _ hc) (hS.below hc).or (show ∃ mA mc, _ = Value.slice mA (P17.made DL (rn k)).length mc ∧ RowOf _ wr.heap.size 83 11 RV.cells mA mc (P17.made DL (rn k)) from ⟨mA, mc, rfl, own_base hrow hle⟩)
          refine StepsOkB.cons (StepOkB.other rfl fun y W b hbq hS hd K' hK => ?_) ?_
          · skip
            have e38 : y 38 = .slice rA (rulesTo d.dr k).length rc := (hd 1 rfl).val rfl rfl
            have x6 : (fun (y : Nat → Value) (W : World) => ∃ mA mc, y 43 = .slice mA (P17.made DL (rn k)).length mc ∧ RowOf W wr.heap.size 83 11 RV.cells mA mc (P17.made DL (rn k))) y W := (hd 6 rfl).ex rfl
            clear hd
            have hb1 := hbq.1 (.inl rfl)
            subst hb1
            obtain ⟨mA, mc, h1, h2⟩ := x6
            have hle := hS.le
            obtain ⟨hz, hbw⟩ := hS.ahead rfl
            obtain ⟨i1, hi, hz0, hz1, hz2⟩ := info_parts infoRuleC
            obtain ⟨gm, rfl, _, _⟩ := h2.addr (by have := HTWO.out; omega)
            refine step_append_own (by rfl) _ _ 27 (by rfl) (w.heap.size + 1 + 1 + 1) 83 i1 _ 11 104 Tryd.underlying27 hi hz0 hz1 hz2 rfl (by decide) (.slice rA (rulesTo d.dr k).length rc) (rulesTo d.dr k).length ((rulesTo d.dr k).flatMap RV.cells) (by first | rfl | (simp only [e38]; rfl)) hz ⟨gm, 0, none⟩ (P17.made DL (rn k)).length mc ((P17.made DL (rn k)).flatMap RV.cells) (by first | rfl | (simp only [h1]; rfl)) (fl_len len_rule _) (World.ownsRow.cells h2 rfl) (one_fl one_rule _) (by have := HRL.out; have := HFIVE.out; simp only [maxLen]; omega) (by have := HRL.out; have := HFIVE.out; omega) (Nat.le_trans HGL.out hle) ?_
            intro v1 w6 hown hgr
            obtain ⟨rA', rc', rfl⟩ := row_is hown
            have hG := GB.grown (B := 32) (by decide) hz HZ0.out hgr
            exact hK.out _ _ _ rfl hG (hS.grown hz hgr) (show ∃ rA'' rc'', _ = Value.slice rA'' ((rulesTo d.dr k).length + (P17.made DL (rn k)).length) rc'' ∧ RowOf _ (w.heap.size + 1 + 1 + 1) 83 11 RV.cells rA'' rc'' (rulesTo d.dr k ++ P17.made DL (rn k)) from ⟨rA', rc', rfl, by unfold RowOf; rw [List.length_append, List.flatMap_append]; exact hown⟩)
          refine StepsOkB.cons (StepOkB.known rfl fun y W b hbq hS hd K' hK => ?_) ?_
          · skip
            clear hd
            go_simp
            exact hK.out _ _ rfl (GB.refl _ _ _ _ _) hS.or
          refine StepsOkB.cons (StepOkB.other rfl fun y W b hbq hS hd K' hK => ?_) ?_
          · skip
            have x7 : (fun (y : Nat → Value) (W : World) => ∃ rA' rc', y 44 = .slice rA' ((rulesTo d.dr k).length + (P17.made DL (rn k)).length) rc' ∧ RowOf W (w.heap.size + 1 + 1 + 1) 83 11 RV.cells rA' rc' (rulesTo d.dr k ++ P17.made DL (rn k))) y W := (hd 7 rfl).ex rfl
            have e45 : y 45 = .pointer (some ⟨w.heap.size + 1 + 1, 0, none⟩) := (hd 8 rfl).val rfl rfl
            clear hd
            have hb1 := hbq.2 rfl
            subst hb1
            obtain ⟨rA', rc', h1, h2⟩ := x7
            obtain ⟨v, hv, _⟩ := hS.own
            have k1 := (hv.cell 0).trans rfl
            have f1 := hv.frozen 0
            have t1 := hv.set_ 0 (.slice rA' ((rulesTo d.dr k).length + (P17.made DL (rn k)).length) rc')
            have q1 := GB.set_ (T := 83) (N := wr.heap.size) true hv 0 (.slice rA' ((rulesTo d.dr k).length + (P17.made DL (rn k)).length) rc')
            have hs' := hS.set1 hv (.slice rA' ((rulesTo d.dr k).length + (P17.made DL (rn k)).length) rc')
            have HH := Lib.hid (And.intro t1 (And.intro q1 hs'))
            clear t1 q1 hs'
            go_simp
            exact hK.out undef _ _ (by first | rfl | (simp only [h1, e45]; done) | (simp only [h1, e45]; rfl)) HH.out.2.1 HH.out.2.2 (show ∃ rA' rc', RowOf _ (w.heap.size + 1 + 1 + 1) 83 11 RV.cells rA' rc' (rulesTo d.dr k ++ P17.made DL (rn k)) ∧ Blk _ (w.heap.size + 1 + 1) 32 #[.slice rA' ((rulesTo d.dr k).length + (P17.made DL (rn k)).length) rc', .slice none 0 0, .slice none 0 0, .slice none 0 0] from ⟨rA', rc', HH.out.2.1.rowA (by decide) (.inr (.inr rfl)) h2, HH.out.1⟩)
          exact StepsOkB.nil
      · have hsi : ¬ (k : Int) < (d.sets.length : Int) := by omega
        have HDRK := Lib.hid (show d.dr k = [] by unfold D23.dr; rw [List.getElem?_eq_none (by omega)]; rfl)
        have HDR : Hid (Dr w none []) := Lib.hid (dr_nil w)
        have HTWO := Lib.hid (P17.made_good [] (rn k)).two; have HFIVE := Lib.hid (P17.made_good [] (rn k)).five
        clear hset
        go_upto_region 9 with fail
        clear c0
        have hS0 := HEM.out
        refine wp_region_shapeB [(some 37, []), (some 38, [0]), (some 39, []), (some 40, []), (some 41, [3]), (some 42, [4]), (some 43, [2, 5, 4]), (some 44, [1, 6, 6]), (some 45, [0, 1, 2, 3, 4, 5, 6, 7]), (none, [8, 7, 7, 0, 1, 2, 3, 4, 5, 6, 7])] (fun y => { tmps := #[.agg #[.slice d.sA d.sets.length d.sc, .slice d.zA d.zones.length d.zc, .slice d.lA d.links.length d.lc], .pointer (some ⟨w.heap.size, 0, none⟩), .pointer (some ⟨w.heap.size + 1, 0, none⟩), .pointer (some ⟨w.heap.size + 1 + 1, 0, none⟩), .int .i64 N, .int .i64 k, .slice none ([] : List Int).length 0, undef, undef, undef, undef, undef, undef, undef, undef, undef, undef, undef, .pointer (some ⟨w.heap.size, 0, none⟩), .slice d.sA d.sets.length d.sc, .int .i64 d.sets.length, .int .i64 (min (d.sets.length : Int) 3), .int .i64 N, .int .i64 N, .int .i64 k, .bool true, .int .i64 k, .int .i64 k, .pointer (some ⟨w.heap.size, 0, none⟩), .slice d.sA d.sets.length d.sc, .int .i64 d.sets.length, .bool false, u32, u33, u34, u35, u36, y 37, y 38, y 39, y 40, y 41, y 42, y 43, y 44, y 45, u46, undef, undef, undef, undef, undef, undef, undef, undef, undef, undef, undef, undef, undef, undef, undef, undef, undef, undef, undef, undef, undef, undef, undef, undef, undef, undef, undef, undef, undef, undef, undef, undef, undef, undef, undef, undef, undef, undef, undef, undef, undef, undef, undef, undef, undef, undef, undef, undef, undef, undef, undef, undef, undef, undef, undef, undef, undef, undef, undef, undef, undef, undef, undef, undef, undef, undef, undef, undef, undef, undef, undef, undef, undef, undef, undef, undef, undef, undef, undef, undef, undef, undef, undef, undef, undef, undef, undef, undef, undef, undef, undef, undef, undef, undef, undef, undef, undef, undef, undef, undef, undef, undef, undef, undef, undef, undef, undef, undef, undef, undef, undef, undef, undef, undef, undef, undef, undef, undef, undef], defers := [] }) (fun k => match k with | 37 => u37 | 38 => u38 | 39 => u39 | 40 => u40 | 41 => u41 | 42 => u42 | 43 => u43 | 44 => u44 | 45 => u45 | _ => undef) (fun j => j == 6 || j == 7 || j == 9) [.pointer (some ⟨w.heap.size + 1 + 1, 0, none⟩), .slice rA (rulesTo d.dr k).length rc, .slice none ([] : List Int).length 0, .int .i64 k, .string KS, .string (rn k), undef, undef, .pointer (some ⟨w.heap.size + 1 + 1, 0, none⟩), undef] (fun j y W => match j with | 6 => ∃ mA mc, y 43 = .slice mA (P17.made ([] : List Int) (rn k)).length mc ∧ RowOf W wr.heap.size 83 11 RV.cells mA mc (P17.made ([] : List Int) (rn k)) | 7 => ∃ rA' rc', y 44 = .slice rA' ((rulesTo d.dr k).length + (P17.made ([] : List Int) (rn k)).length) rc' ∧ RowOf W (w.heap.size + 1 + 1 + 1) 83 11 RV.cells rA' rc' (rulesTo d.dr k ++ P17.made ([] : List Int) (rn k)) | 9 => ∃ rA' rc', RowOf W (w.heap.size + 1 + 1 + 1) 83 11 RV.cells rA' rc' (rulesTo d.dr k ++ P17.made ([] : List Int) (rn k)) ∧ Blk W (w.heap.size + 1 + 1) 32 #[.slice rA' ((rulesTo d.dr k).length + (P17.made ([] : List Int) (rn k)).length) rc', .slice none 0 0, .slice none 0 0, .slice none 0 0] | _ => True) (fun j => match j with | 6 => [43] | 7 => [44] | 9 => [] | _ => []) 7 (fun b => GB 32 83 wr.heap.size b) (fun b W => Em w W d rA rc (rulesTo d.dr k) b wr) (by kernel_rfl) (by kernel_rfl) (by decide +kernel) rfl (hS0.below (Below.refl _ _).drew) ?hput5 ?hloc5 ?hmono5 ?hstep5 ?hdone5
        case hput5 =>
          intro d hd y v
          simp only [List.filterMap_cons, List.filterMap_nil, List.mem_cons, List.not_mem_nil, or_false] at hd
          rcases hd with rfl | rfl | rfl | rfl | rfl | rfl | rfl | rfl | rfl
          all_goals rfl
        case hloc5 =>
          intro j hj y y' W hk hx
          have hj' : j = 6 ∨ j = 7 ∨ j = 9 := by simpa [or_assoc] using hj
          rcases hj' with rfl | rfl | rfl
          · simp only [List.forall_mem_cons, List.not_mem_nil, false_imp_iff, implies_true, and_true] at hk
            show _
            simpa only [hk] using hx
          · simp only [List.forall_mem_cons, List.not_mem_nil, false_imp_iff, implies_true, and_true] at hk
            show _
            simpa only [hk] using hx
          · skip
            exact hx
        case hmono5 =>
          intro j hj hlast b hbq y W W' hg hx
          have hj' : j = 6 ∨ j = 7 ∨ j = 9 := by simpa [or_assoc] using hj
          rcases hj' with rfl | rfl | rfl
          · obtain ⟨mA, mc, h1, h2⟩ := hx; exact ⟨mA, mc, h1, hg.rowA (by decide) (.inr (.inl (Nat.le_refl _))) h2⟩
          · obtain ⟨rA', rc', h1, h2⟩ := hx; have hb1 := hbq rfl; subst hb1; exact ⟨rA', rc', h1, hg.rowA (by decide) (.inr (.inr rfl)) h2⟩
          · exact absurd hlast (by decide)
        case hdone5 =>
          intro y5 W5 hS hd
          have x9 : (fun (y : Nat → Value) (W : World) => ∃ rA' rc', RowOf W (w.heap.size + 1 + 1 + 1) 83 11 RV.cells rA' rc' (rulesTo d.dr k ++ P17.made ([] : List Int) (rn k)) ∧ Blk W (w.heap.size + 1 + 1) 32 #[.slice rA' ((rulesTo d.dr k).length + (P17.made ([] : List Int) (rn k)).length) rc', .slice none 0 0, .slice none 0 0, .slice none 0 0]) y5 W5 := (hd 9 (by decide)).ex rfl
          obtain ⟨rA', rc', h1, h2⟩ := x9
          have HE7 := Lib.hid (show Em w W5 d rA' rc' (rulesTo d.dr (k + 1)) false W5 from by
            rw [rulesTo_succ, HDRK.out]
            exact ⟨hS.src, hS.res, ⟨_, by rw [List.length_append]; exact h2, fun _ => rfl⟩, hS.bel, Nat.le_refl _, fun _ => ⟨h1, Below.refl _ _⟩⟩)
          have HGL7 := Lib.hid (Nat.le_trans HGL.out hS.le)
          clear hd hS h1 h2
          go_wp2_with fail
          go_roundw
          case rel => exact ⟨k + 1, by have := HLT.out; omega, by go_num, rA', rc', HE7.out, HGL7.out⟩
          case measure => have := HLT.out; simp [intOf]; omega
        case hstep5 =>
          refine StepsOkB.cons (StepOkB.known rfl fun y W b hbq hS hd K' hK => ?_) ?_
          · skip
            clear hd
            go_simp
            exact hK.out _ _ rfl (GB.refl _ _ _ _ _) hS.or
          refine StepsOkB.cons (StepOkB.known rfl fun y W b hbq hS hd K' hK => ?_) ?_
          · skip
            have e37 : y 37 = .pointer (some ⟨w.heap.size + 1 + 1, 0, none⟩) := (hd 0 rfl).val rfl rfl
            clear hd
            have hb1 := hbq.1 (.inr rfl)
            subst hb1
            obtain ⟨v, hv, hv2⟩ := hS.own
            obtain rfl := hv2 rfl
            have hc := (hv.cell 0).trans rfl
            go_simp
            exact hK.out _ _ (by first | rfl | (simp only [e37]; done) | (simp only [e37]; rfl)) (GB.refl _ _ _ _ _) hS.or
          refine StepsOkB.cons (StepOkB.known rfl fun y W b hbq hS hd K' hK => ?_) ?_
          · skip
            clear hd
            go_simp
            exact hK.out _ _ rfl (GB.refl _ _ _ _ _) hS.or
          refine StepsOkB.cons (StepOkB.known rfl fun y W b hbq hS hd K' hK => ?_) ?_
          · skip
            clear hd
            go_simp
            exact hK.out _ _ rfl (GB.refl _ _ _ _ _) hS.or
          refine StepsOkB.cons (StepOkB.known rfl fun y W b hbq hS hd K' hK => ?_) ?_
          · skip
            have e40 : y 40 = .int .i64 k := (hd 3 rfl).val rfl rfl
            clear hd
            go_simp
            refine (cI.out _ (hp.below hS.bel)).mono ?_
            rintro e W' ⟨rfl, hc⟩
            go_wp2_with fail
            exact hK.out _ _ (by first | rfl | (simp only [e40]; done) | (simp only [e40]; rfl)) (GB.below _ hc) (hS.below hc).or
          refine StepsOkB.cons (StepOkB.known rfl fun y W b hbq hS hd K' hK => ?_) ?_
          · skip
            have e41 : y 41 = .string KS := (hd 4 rfl).val rfl rfl
            clear hd
            have hsum := HSUM.out
            go_simp
            exact hK.out _ _ (by first | rfl | (simp only [e41]; done) | (simp only [e41]; rfl)) (GB.refl _ _ _ _ _) hS.or
          refine StepsOkB.cons (StepOkB.other rfl fun y W b hbq hS hd K' hK => ?_) ?_
          · skip
            have e39 : y 39 = .slice none ([] : List Int).length 0 := (hd 2 rfl).val rfl rfl
            have e41 : y 41 = .string KS := (hd 4 rfl).val rfl rfl
            have e42 : y 42 = .string (rn k) := (hd 5 rfl).val rfl rfl
            clear hd
            go_simp
            refine (made17_any none 0 ([] : List Int) (rn k) W (HDR.out.below hS.bel)).mono ?_
            rintro e W' ⟨⟨v, rfl, hrow⟩, hc⟩
            obtain ⟨mA, mc, rfl⟩ := row_is hrow
            go_wp2_with fail
            have hle := hS.le
            exact hK.out _ _ _ (by first | rfl | (simp only [e39, e41, e42]; done) | (simp only [e39, e41, e42]; rfl)) (GB.below _ hc) (hS.below hc).or (show ∃ mA mc, _ = Value.slice mA (P17.made ([] : List Int) (rn k)).length mc ∧ RowOf _ wr.heap.size 83 11 RV.cells mA mc (P17.made ([] : List Int) (rn k)) from ⟨mA, mc, rfl, own_base hrow hle⟩)
          refine StepsOkB.cons (StepOkB.other rfl fun y W b hbq hS hd K' hK => ?_) ?_
          · skip
            have e38 : y 38 = .slice rA (rulesTo d.dr k).length rc := (hd 1 rfl).val rfl rfl
            have x6 : (fun (y : Nat → Value) (W : World) => ∃ mA mc, y 43 = .slice mA (P17.made ([] : List Int) (rn k)).length mc ∧ RowOf W wr.heap.size 83 11 RV.cells mA mc (P17.made ([] : List Int) (rn k))) y W := (hd 6 rfl).ex rfl
            clear hd
            have hb1 := hbq.1 (.inl rfl)
            subst hb1
            obtain ⟨mA, mc, h1, h2⟩ := x6
            have hle := hS.le
            obtain ⟨hz, hbw⟩ := hS.ahead rfl
            obtain ⟨i1, hi, hz0, hz1, hz2⟩ := info_parts infoRuleC
            obtain ⟨gm, rfl, _, _⟩ := h2.addr (by have := HTWO.out; omega)
            refine step_append_own (by rfl) _ _ 27 (by rfl) (w.heap.size + 1 + 1 + 1) 83 i1 _ 11 104 Tryd.underlying27 hi hz0 hz1 hz2 rfl (by decide) (.slice rA (rulesTo d.dr k).length rc) (rulesTo d.dr k).length ((rulesTo d.dr k).flatMap RV.cells) (by first | rfl | (simp only [e38]; rfl)) hz ⟨gm, 0, none⟩ (P17.made ([] : List Int) (rn k)).length mc ((P17.made ([] : List Int) (rn k)).flatMap RV.cells) (by first | rfl | (simp only [h1]; rfl)) (fl_len len_rule _) (World.ownsRow.cells h2 rfl) (one_fl one_rule _) (by have := HRL.out; have := HFIVE.out; simp only [maxLen]; omega) (by have := HRL.out; have := HFIVE.out; omega) (Nat.le_trans HGL.out hle) ?_
            intro v1 w6 hown hgr
            obtain ⟨rA', rc', rfl⟩ := row_is hown
            have hG := GB.grown (B := 32) (by decide) hz HZ0.out hgr
            exact hK.out _ _ _ rfl hG (hS.grown hz hgr) (show ∃ rA'' rc'', _ = Value.slice rA'' ((rulesTo d.dr k).length + (P17.made ([] : List Int) (rn k)).length) rc'' ∧ RowOf _ (w.heap.size + 1 + 1 + 1) 83 11 RV.cells rA'' rc'' (rulesTo d.dr k ++ P17.made ([] : List Int) (rn k)) from ⟨rA', rc', rfl, by unfold RowOf; rw [List.length_append, List.flatMap_append]; exact hown⟩)
          refine StepsOkB.cons (StepOkB.known rfl fun y W b hbq hS hd K' hK => ?_) ?_
          · skip
            clear hd
            go_simp
            exact hK.out _ _ rfl (GB.refl _ _ _ _ _) hS.or
          refine StepsOkB.cons (StepOkB.other rfl fun y W b hbq hS hd K' hK => ?_) ?_
          · skip
            have x7 : (fun (y : Nat → Value) (W : World) => ∃ rA' rc', y 44 = .slice rA' ((rulesTo d.dr k).length + (P17.made ([] : List Int) (rn k)).length) rc' ∧ RowOf W (w.heap.size + 1 + 1 + 1) 83 11 RV.cells rA' rc' (rulesTo d.dr k ++ P17.made ([] : List Int) (rn k))) y W := (hd 7 rfl).ex rfl
            have e45 : y 45 = .pointer (some ⟨w.heap.size + 1 + 1, 0, none⟩) := (hd 8 rfl).val rfl rfl
            clear hd
            have hb1 := hbq.2 rfl
            subst hb1
            obtain ⟨rA', rc', h1, h2⟩ := x7
            obtain ⟨v, hv, _⟩ := hS.own
            have k1 := (hv.cell 0).trans rfl
            have f1 := hv.frozen 0
            have t1 := hv.set_ 0 (.slice rA' ((rulesTo d.dr k).length + (P17.made ([] : List Int) (rn k)).length) rc')
            have q1 := GB.set_ (T := 83) (N := wr.heap.size) true hv 0 (.slice rA' ((rulesTo d.dr k).length + (P17.made ([] : List Int) (rn k)).length) rc')
            have hs' := hS.set1 hv (.slice rA' ((rulesTo d.dr k).length + (P17.made ([] : List Int) (rn k)).length) rc')
            have HH := Lib.hid (And.intro t1 (And.intro q1 hs'))
            clear t1 q1 hs'
            go_simp
            exact hK.out undef _ _ (by first | rfl | (simp only [h1, e45]; done) | (simp only [h1, e45]; rfl)) HH.out.2.1 HH.out.2.2 (show ∃ rA' rc', RowOf _ (w.heap.size + 1 + 1 + 1) 83 11 RV.cells rA' rc' (rulesTo d.dr k ++ P17.made ([] : List Int) (rn k)) ∧ Blk _ (w.heap.size + 1 + 1) 32 #[.slice rA' ((rulesTo d.dr k).length + (P17.made ([] : List Int) (rn k)).length) rc', .slice none 0 0, .slice none 0 0, .slice none 0 0] from ⟨rA', rc', HH.out.2.1.rowA (by decide) (.inr (.inr rfl)) h2, HH.out.1⟩)
          exact StepsOkB.nil
    · obtain rfl : N = k := by omega
      obtain ⟨rA, rc, RR, hRR⟩ : ∃ rA' rc' RR, rA' = rA ∧ rc' = rc ∧ RR = rulesTo d.dr N := ⟨_, _, _, rfl, rfl, rfl⟩
      obtain ⟨rfl, rfl, hRR⟩ := hRR
      rw [← hRR] at hem
      have HRR := Lib.hid hRR
      have c1 := (hem.src.cell 1).trans rfl
      obtain ⟨hrow, _⟩ := hem.ahead rfl
      obtain ⟨v, hv, hv2⟩ := hem.own
      obtain rfl := hv2 rfl
      have HB := Lib.hid (And.intro hem.bel (And.intro hem.src (And.intro hem.res (And.intro hv hrow))))
      have HGL := Lib.hid hgl
      clear hem hrow hv hRR hgl hlt hk hN3
      obtain ⟨MZ, hM, hM3⟩ : ∃ M : Nat, min (d.zones.length : Int) 3 = (M : Int) ∧ M ≤ 3 ∧ M ≤ d.zones.length ∧ M ≤ d.zc ∧ M = min d.zones.length 3 := ⟨(min (d.zones.length : Int) 3).toNat, by omega, by have := HD.out.caps; omega⟩
      have HM3 := Lib.hid hM3
      have sl := slice_first 23 101 (by rfl) (by rfl) (fun _ => ⟨_, rfl⟩) d.zA d.zones.length d.zc MZ hM3.2.2.1
      clear hM3
      go_upto_if 56 with fail
      clear sl hM c1
      go_cut [7] (fun s7 wx => ∃ (zA : Option Addr) (zc : Nat) (zs : List (Option Addr × Nat × List E23)), s7 = .slice zA zs.length zc ∧ Hid ((1 ≤ zs.length ∧ zs.length ≤ 3) ∧ CellsX wx.heap.size (w.heap.size + 1 + 1) 1 zoneCells wx zA zs ∧ (∀ z ∈ zs, CellsIn 8 E23.cells w z.1 z.2.2 ∧ (∀ x ∈ z.2.2, x.ok) ∧ z.2.2.length ≤ z.2.1 ∧ z.2.2.length ≤ maxLen) ∧ Below wr.heap.size wr wx))
      case first =>
        by_cases hm0 : MZ = 0
        · have hmd : ((MZ : Int) == 0) = true := by simp [hm0]
          have HM0 := Lib.hid hm0
          clear hm0
          have hal := (Below.refl wr.heap.size wr).alloc (Nat.le_refl _) (.cells #[.slice none 0 0] 101)
          have HNB := Lib.hid (Blk.new wr 101 #[.slice none 0 0])
          have HAL := Lib.hid hal
          clear hal
          go_wp2_with fail
          go_meet
          refine ⟨some ⟨wr.heap.size, 0, none⟩, 1, [(none, 0, [])], rfl, Lib.hid ⟨⟨Nat.le_refl _, by decide⟩, fun k r hr => ?_, fun z hz => ?_, HAL.out⟩⟩
          · match k with
            | 0 =>
              obtain rfl : (none, 0, []) = r := by simpa using hr
              refine ⟨wr.heap.size, 0, rfl, by simp, by have := HGL.out; omega, fun j u hu => ?_⟩
              match j with
              | 0 => obtain rfl : Value.slice none 0 0 = u := by simpa [zoneCells] using hu
                     exact (HNB.out.cell 0).trans rfl
              | j + 1 => simp [zoneCells] at hu
            | k + 1 => simp at hr
          · obtain rfl := List.mem_singleton.1 hz
            exact ⟨CellsIn.nil _ _, fun x hx => by simp at hx, Nat.le_refl _, by simp⟩
        · have hmi : ¬ (MZ : Int) = 0 := by omega
          have hmd : ((MZ : Int) == 0) = false := by simpa using hmi
          go_wp2_with fail
          go_meet
          have hl : (d.zones.take MZ).length = MZ := by rw [List.length_take]; have := HM3.out; omega
          refine ⟨d.zA, d.zc, d.zones.take MZ, by rw [hl], Lib.hid ⟨by rw [hl]; have := HM3.out; omega, (CellsX.of HD.out.zones HB.out.1 (Nat.le_trans HB.out.1.size (Nat.le_refl _)) (by omega)).take MZ, fun z hz => ?_, Below.refl _ _⟩⟩
          have h := HD.out.eras z (List.mem_of_mem_take hz)
          exact ⟨h.1, h.2.1, h.2.2.2, h.2.2.1⟩
      case rest =>
        obtain ⟨zA, zc, zs, rfl, hZZ⟩ := hcut
        obtain ⟨w1, hw1⟩ : ∃ x, x = wc := ⟨_, rfl⟩
        subst hw1
        have hbw := hZZ.out.2.2.2
        have HZP := Lib.hid (show Zp w w1 w1 rA rc RR.length none 0 [] N from ⟨by have q := KX.refl (w.heap.size + 1 + 1) w1; exact q, HB.out.2.2.2.1.below hbw HB.out.2.2.2.1.lt, World.ownsRow_nil .., fun y hy => by simp at hy, fun y hy => by simp at hy, HB.out.1.trans (hbw.mono HB.out.1.size)⟩)
        have HW1 := Lib.hid (And.intro (HB.out.2.1.below hbw HB.out.2.1.lt) (And.intro (HB.out.2.2.1.below hbw HB.out.2.2.1.lt) (And.intro (HB.out.2.2.2.2.below hbw) (show w.heap.size + 1 + 1 + 1 ≤ w1.heap.size from Nat.le_trans HGL.out hbw.size))))
        have HZL := Lib.hid hZZ.out.1
        have hzl : (zs.length : Int) ≤ 3 := by have := HZL.out; omega
        clear hbw HB HGL hv2
        go_wp2_with fail
        go_loopw [60] (fun i W => ∃ j : Nat, j ≤ zs.length ∧ i = .int .i64 j ∧ ∃ yA yc Y, Zp w w1 W rA rc RR.length yA yc Y N ∧ Y.length = j) (fun i _ => zs.length - (intOf i).toNat)
        case atStart => exact ⟨0, Nat.zero_le _, rfl, none, 0, [], HZP.out, rfl⟩
        case round =>
          clear HZP
          obtain ⟨wo, hwo⟩ : ∃ x, x = wr := ⟨_, rfl⟩
          subst hwo
          obtain ⟨j, hj, rfl, yA, yc, Y, hzp, hyl⟩ := hrel
          have HZP := Lib.hid hzp; have HYL := Lib.hid hyl
          clear hyl
          by_cases hjt : j < zs.length
          · have hji : (j : Int) < (zs.length : Int) := by omega
            have hj0 : (0 : Int) ≤ (j : Int) := by omega
            obtain ⟨z, hz⟩ : ∃ z, zs[j]? = some z := ⟨_, List.getElem?_eq_getElem hjt⟩
            obtain ⟨gz, oz, hzA, _, _, hcz⟩ := (hZZ.out.2.1.kx hzp.kx) j z hz
            have HZE := Lib.hid (hZZ.out.2.2.1 z (List.mem_of_getElem? hz))
            obtain ⟨lA, lc, L0⟩ := z
            have x0 : wo.cell? ⟨gz, oz + j, none⟩ = some (.slice lA L0.length lc) := by have q := hcz 0 _ rfl; simpa using q
            rw [hzA]
            have hl0 : (L0.length : Int) ≤ 9223372036854775807 := by have h4 : L0.length ≤ maxLen := HZE.out.2.2.2; unfold maxLen at h4; omega
            obtain ⟨M, hM, hM3⟩ : ∃ M : Nat, min (L0.length : Int) 4 = (M : Int) ∧ M ≤ 4 ∧ M ≤ L0.length ∧ M ≤ lc ∧ M = min L0.length 4 := ⟨(min (L0.length : Int) 4).toNat, by omega, by have h4 : L0.length ≤ lc := HZE.out.2.2.1; omega⟩
            have HM3 := Lib.hid hM3
            have sl := slice_first 101 104 (by rfl) (by rfl) (fun _ => ⟨_, rfl⟩) lA L0.length lc M hM3.2.2.1
            have hj10 : j < 10 := by have := HZL.out; omega
            obtain ⟨NM, hsum⟩ : ∃ NM, ∀ W : World, (Op.stringOp .add ⟨#[65, 114, 101, 97, 47, 90]⟩ (str [UInt8.ofNat (48 + j)])).run Tryd.prog W = .ok (.string NM) W := ⟨_, cat_run [65, 114, 101, 97, 47, 90] [UInt8.ofNat (48 + j)] (by simp)⟩
            have cI : ∀ W, VarsP W → Calls Tryd.prog 45 #[.int .i64 (j : Int)] W fun e w' => e = .returned (.string (str [UInt8.ofNat (48 + j)])) ∧ Below W.heap.size W w' := fun W h => itoa23 j _ rfl hj10 W h
            obtain ⟨KS, hKS⟩ : ∃ KS, str [UInt8.ofNat (48 + j)] = KS := ⟨_, rfl⟩
            rw [hKS] at hsum cI
            have HJT := Lib.hid hjt
            have HVP := Lib.hid (hp.below hzp.bel)
            clear hM3 hj10 hKS hz hcz hzA hzp hjt
            go_wp2_with fail
            refine (cI wo HVP.out).mono ?_
            rintro e W2 ⟨rfl, hc⟩
            have hal := hc.alloc hc.size (.cells #[.string NM, .slice none 0 0] 39)
            have HNB := Lib.hid (Blk.new W2 39 #[.string NM, .slice none 0 0])
            have HAL := Lib.hid hal; have HC2 := Lib.hid hc.size
            clear x0 hc hal cI
            go_upto_if 76 with fail
            clear sl hM hsum
            go_cut [9] (fun s9 wx => ∃ (lA : Option Addr) (lc : Nat) (L : List E23), s9 = .slice lA L.length lc ∧ Hid ((1 ≤ L.length ∧ L.length ≤ 4) ∧ CellsX wx.heap.size W2.heap.size 8 E23.cells wx lA L ∧ (∀ x ∈ L, x.ok) ∧ Below wo.heap.size wo wx ∧ Blk wx W2.heap.size 39 #[.string NM, .slice none 0 0]))
            case first =>
              by_cases hm0 : M = 0
              · have hmd : ((M : Int) == 0) = true := by simp [hm0]
                clear hm0
                have HAL2 := Lib.hid (HAL.out.alloc HAL.out.size (.cells #[.int .u8 0, .int .u8 0, .int .u8 0, .int .u8 0, .int .u8 0, .int .u8 0, .int .i8 0, .int .i8 0] 104))
                have HNB2 := Lib.hid (HNB.out.alloc (.cells #[.int .u8 0, .int .u8 0, .int .u8 0, .int .u8 0, .int .u8 0, .int .u8 0, .int .i8 0, .int .i8 0] 104))
                have HLB := Lib.hid (Blk.newAt (W2.alloc (.cells #[.string NM, .slice none 0 0] 39)) (W2.heap.size + 1) (by simp) 104 #[.int .u8 0, .int .u8 0, .int .u8 0, .int .u8 0, .int .u8 0, .int .u8 0, .int .i8 0, .int .i8 0])
                go_wp2_with fail
                go_meet
                refine ⟨some ⟨W2.heap.size + 1, 0, none⟩, 1, [⟨0, 0, 0, 0, 0, 0, 0, 0⟩], rfl, Lib.hid ⟨⟨Nat.le_refl _, by decide⟩, fun k r hr => ?_, fun x hx => ?_, HAL2.out, HNB2.out⟩⟩
                · match k with
                  | 0 =>
                    obtain rfl : (⟨0, 0, 0, 0, 0, 0, 0, 0⟩ : E23) = r := by simpa using hr
                    refine ⟨W2.heap.size + 1, 0, rfl, by simp, by omega, fun j u hu => ?_⟩
                    simp only [Nat.zero_mul, Nat.zero_add]
                    exact (HLB.out.cell j).trans (by rw [← Array.getElem?_toList]; exact hu)
                  | k + 1 => simp at hr
                · obtain rfl := List.mem_singleton.1 hx
                  exact ⟨by decide, by decide, by decide, by decide, by decide, by decide, by decide, by decide⟩
              · have hmi : ¬ (M : Int) = 0 := by omega
                have hmd : ((M : Int) == 0) = false := by simpa using hmi
                go_wp2_with fail
                go_meet
                have hl : (L0.take M).length = M := by rw [List.length_take]; have := HM3.out; omega
                refine ⟨lA, lc, L0.take M, by rw [hl], Lib.hid ⟨by rw [hl]; have := HM3.out; omega, (CellsX.of HZE.out.1 (HZP.out.bel.trans (HAL.out.mono HZP.out.bel.size)) ?_ ?_).take M, fun x hx => HZE.out.2.1 x (List.mem_of_mem_take hx), HAL.out, HNB.out⟩⟩
                · have := HZP.out.bel.size; have := HC2.out; simp; omega
                · have := HZP.out.bel.size; have := HC2.out; omega
            case rest =>
              obtain ⟨lA, lc, L, rfl, hLL⟩ := hcut
              obtain ⟨wi, hwi⟩ : ∃ x, x = wc := ⟨_, rfl⟩
              subst hwi
              obtain ⟨zb, hzb⟩ : ∃ zb, zb = W2.heap.size := ⟨_, rfl⟩
              rw [← hzb] at hLL ⊢
              have HZB := Lib.hid (show wo.heap.size ≤ zb by rw [hzb]; exact HC2.out)
              clear hzb HNB HAL HC2 HM3 HZE
              have HLN := Lib.hid hLL.out.1
              have hll : (L.length : Int) ≤ 4 := by have := HLN.out; omega
              have HIP := Lib.hid (show Ip wo wi wi zb NM none 0 [] N from ⟨hLL.out.2.2.2.1, KX.refl _ _, hLL.out.2.2.2.2, World.ownsRow_nil .., fun e he => by simp at he⟩)
              go_wp2_with fail
              go_loopw [11, 81] (fun yv iv W => ∃ i : Nat, i ≤ L.length ∧ iv = .int .i64 i ∧ (∃ yr : Int, yv = .int .i64 yr ∧ 1904 ≤ yr ∧ yr ≤ 1904 + 30 * (i : Int)) ∧ ∃ eA ec Es, Ip wo wi W zb NM eA ec Es N ∧ Es.length = i) (fun _ iv _ => L.length - (intOf iv).toNat)
              case atStart => exact ⟨0, Nat.zero_le _, rfl, ⟨1904, rfl, by decide, by decide⟩, none, 0, [], HIP.out, rfl⟩
              case round =>
                clear HIP
                obtain ⟨i, hi, rfl, ⟨yr, rfl, hyr0, hyr1⟩, eA, ec, Es, hip, hes⟩ := hrel
                have HIP := Lib.hid hip; have HES := Lib.hid hes
                clear hes
                by_cases hit : i < L.length
                · have hii : (i : Int) < (L.length : Int) := by omega
                  have hi0 : (0 : Int) ≤ (i : Int) := by omega
                  obtain ⟨x, hx⟩ : ∃ x, L[i]? = some x := ⟨_, List.getElem?_eq_getElem hit⟩
                  obtain ⟨gl, ol, hlA, _, _, hcx⟩ := (hLL.out.2.1.kx hip.kx) i x hx
                  have HOK := Lib.hid (hLL.out.2.2.1 x (List.mem_of_getElem? hx))
                  have y0 : wr.cell? ⟨gl, ol + i * 8, none⟩ = some (.int .u8 x.kind) := hcx 0 _ rfl
                  have y1 := hcx 1 _ rfl; have y2 := hcx 2 _ rfl; have y3 := hcx 3 _ rfl; have y4 := hcx 4 _ rfl; have y5 := hcx 5 _ rfl; have y6 := hcx 6 _ rfl; have y7 := hcx 7 _ rfl
                  rw [hlA]
                  obtain ⟨Y3, hY, hY0, hY1⟩ : ∃ Y3 : Int, x.years.tmod 30 = Y3 ∧ 0 ≤ Y3 ∧ Y3 ≤ 29 := ⟨_, rfl, by have := HOK.out.y; rw [Int.tmod_eq_emod_of_nonneg this.1]; omega, by have := HOK.out.y; rw [Int.tmod_eq_emod_of_nonneg this.1]; omega⟩
                  have hk0 := HOK.out.y.1; have hk1 := HOK.out.y.2
                  have HIT := Lib.hid hit
                  clear hcx hx hlA hip hit
                  obtain ⟨F, hF⟩ : ∃ F : Bool, ((i : Int) == 0) = F := ⟨_, rfl⟩
                  obtain ⟨En, hEn⟩ : ∃ En : Bool, decide ((i : Int) < (L.length : Int) - 1) = En := ⟨_, rfl⟩
                  have HF := Lib.hid hF; have HEn := Lib.hid hEn
                  have HAX := Lib.hid ((Below.refl wr.heap.size wr).alloc (Nat.le_refl _) (.cells #[.int .u8 x.kind, .int .u8 x.set, .int .u8 x.fmt, .int .u8 x.years, .int .u8 x.day, .int .u8 x.base, .int .i8 x.off, .int .i8 x.at_] 104))
                  have HXB0 := Lib.hid (Blk.new wr 104 #[.int .u8 x.kind, .int .u8 x.set, .int .u8 x.fmt, .int .u8 x.years, .int .u8 x.day, .int .u8 x.base, .int .i8 x.off, .int .i8 x.at_])
                  have HXB := Lib.hid HIP.out.box.lt
                  have HZ0 : Hid (∀ K, (Value.slice eA Es.length ec).ownBlock = some K → K < wr.heap.size) := Lib.hid fun K hK => (World.ownsRow.lt HIP.out.row K hK).2
                  have HVO := Lib.hid (hp.below HZP.out.bel)
                  have HLW : Hid (IntKind.i64.wrap ((L.length : Int) - 1) = (L.length : Int) - 1 ∧ wrap64 ((L.length : Int) - 1) = (L.length : Int) - 1) := Lib.hid ⟨(IntWalk.i64_left _).trans (IntWalk.wrap64_in _ (by omega)), IntWalk.wrap64_in _ (by omega)⟩
                  have HWI := Lib.hid HIP.out.kx.le
                  have HWO := Lib.hid hLL.out.2.2.2.1.size
                  have HEL : Hid (Es.length ≤ 4) := Lib.hid (by have := HES.out; have := HIT.out; omega)
                  clear hF hEn
                  go_upto_region 26 with fail
                  clear y0 y1 y2 y3 y4 y5 y6 y7

                  refine wp_region_shapeB [(some 93, []), (some 94, [0]), (some 95, []), (some 96, []), (some 97, [3]), (some 98, []), (some 99, []), (some 100, []), (some 101, []), (some 102, [8]), (some 103, [9]), (some 104, [7, 10]), (some 105, [2, 4, 5, 6, 11]), (some 106, [12]), (some 107, [1, 13, 12]), (some 108, [0, 1, 2, 3, 4, 5, 6, 7, 8, 9, 10, 11, 12, 13, 14]), (none, [15, 14, 14, 0, 1, 2, 3, 4, 5, 6, 7, 8, 9, 10, 11, 12, 13, 14])] (fun y => { tmps := #[.agg #[.slice d.sA d.sets.length d.sc, .slice d.zA d.zones.length d.zc, .slice d.lA d.links.length d.lc], .pointer (some ⟨w.heap.size, 0, none⟩), .pointer (some ⟨w.heap.size + 1, 0, none⟩), .pointer (some ⟨w.heap.size + 1 + 1, 0, none⟩), .int .i64 N, u5, u6, .slice (some ⟨gz, oz, none⟩) zs.length zc, .int .i64 j, .slice (some ⟨gl, ol, none⟩) L.length lc, .pointer (some ⟨zb, 0, none⟩), .int .i64 (yr + (1 + Y3)), .int .i64 i, .pointer (some ⟨wr.heap.size, 0, none⟩), undef, undef, undef, undef, u18, u19, u20, u21, u22, .int .i64 N, .int .i64 N, u25, u26, u27, u28, u29, u30, u31, u32, u33, u34, u35, u36, u37, u38, u39, u40, u41, u42, u43, u44, u45, u46, u47, u48, u49, u50, u51, u52, u53, u54, u55, u56, u57, .slice (some ⟨gz, oz, none⟩) zs.length zc, .int .i64 zs.length, .int .i64 j, u61, u62, u63, u64, u65, u66, u67, u68, u69, u70, u71, u72, u73, u74, u75, u76, u77, u78, .slice (some ⟨gl, ol, none⟩) L.length lc, .int .i64 L.length, .int .i64 i, .bool true, .int .i64 i, .pointer (some ⟨gl, ol + i * 8, none⟩), .agg #[.int .u8 x.kind, .int .u8 x.set, .int .u8 x.fmt, .int .u8 x.years, .int .u8 x.day, .int .u8 x.base, .int .i8 x.off, .int .i8 x.at_], .int .i64 yr, .pointer (some ⟨wr.heap.size, 3, none⟩), .int .u8 x.years, .int .u8 Y3, .int .i64 Y3, .int .i64 (1 + Y3), .int .i64 (yr + (1 + Y3)), y 93, y 94, y 95, y 96, y 97, y 98, y 99, y 100, y 101, y 102, y 103, y 104, y 105, y 106, y 107, y 108, u109, u110, u111, u112, u113, u114, u115, u116, u117, u118, u119, u120, u121, u122, undef, undef, undef, u126, u127, u128, u129, u130, u131, u132, u133, u134, u135, u136, u137, u138, u139, u140, u141, u142, u143, u144, u145, u146, u147, u148, u149, u150, u151, u152, u153, u154, u155, u156, u157, u158, u159, u160, u161, u162, u163, u164, u165], defers := [] }) (fun k => match k with | 93 => u93 | 94 => u94 | 95 => u95 | 96 => u96 | 97 => u97 | 98 => u98 | 99 => u99 | 100 => u100 | 101 => u101 | 102 => u102 | 103 => u103 | 104 => u104 | 105 => u105 | 106 => u106 | 107 => u107 | 108 => u108 | _ => undef) (fun j => j == 12 || j == 13 || j == 14 || j == 16) [.pointer (some ⟨zb, 1, none⟩), .slice eA Es.length ec, .agg #[.int .u8 x.kind, .int .u8 x.set, .int .u8 x.fmt, .int .u8 x.years, .int .u8 x.day, .int .u8 x.base, .int .i8 x.off, .int .i8 x.at_], .int .i64 i, .bool F, .int .i64 N, .int .i64 (yr + (1 + Y3)), .int .i64 i, .slice (some ⟨gl, ol, none⟩) L.length lc, .int .i64 L.length, .int .i64 ((L.length : Int) - 1), .bool En, undef, undef, undef, .pointer (some ⟨zb, 1, none⟩), undef] (fun j y W => match j with | 12 => ∃ e : EV, y 105 = .agg #[.int .i64 e.off, .int .i64 e.kind, .int .i64 e.save, .string e.set, .string e.fmt, .bool e.ui, .int .i64 e.uy, .int .i64 e.um, .int .i64 e.dk, .int .i64 e.dw, .int .i64 e.dd, .int .i64 e.asec, .int .i64 e.ab] ∧ GE23 N e | 13 => ∃ (g : Nat) (e : EV), y 106 = .slice (some ⟨g, 0, none⟩) 1 1 ∧ GE23 N e ∧ wr.heap.size ≤ g ∧ Blk W g 47 (EV.cells e).toArray | 14 => ∃ (e : EV) (eA' : Option Addr) (ec' : Nat), y 107 = .slice eA' (Es.length + 1) ec' ∧ GE23 N e ∧ RowOf W wi.heap.size 47 13 EV.cells eA' ec' (Es ++ [e]) | 16 => ∃ (e : EV) (eA' : Option Addr) (ec' : Nat), GE23 N e ∧ RowOf W wi.heap.size 47 13 EV.cells eA' ec' (Es ++ [e]) ∧ Blk W zb 39 #[.string NM, .slice eA' (Es.length + 1) ec'] | _ => True) (fun j => match j with | 12 => [105] | 13 => [106] | 14 => [107] | 16 => [] | _ => []) 14 (fun b => GB 39 47 wr.heap.size b) (fun b W => Im wo wi W zb NM eA ec Es wr.heap.size #[.int .u8 x.kind, .int .u8 x.set, .int .u8 x.fmt, .int .u8 x.years, .int .u8 x.day, .int .u8 x.base, .int .i8 x.off, .int .i8 x.at_] b wr) (by kernel_rfl) (by kernel_rfl) (by decide +kernel) rfl ⟨HIP.out.bel.trans ((HAX.out.mono HIP.out.bel.size).drew), HIP.out.kx.below HAX.out.drew, ⟨_, HIP.out.box.below HAX.out.drew HIP.out.box.lt, fun _ => rfl⟩, HXB0.out, HAX.out.size, fun _ => ⟨HIP.out.row.below HAX.out.drew, HAX.out.drew⟩⟩ ?hput6 ?hloc6 ?hmono6 ?hstep6 ?hdone6
                  case hput6 =>
                    intro d hd y v
                    simp only [List.filterMap_cons, List.filterMap_nil, List.mem_cons, List.not_mem_nil, or_false] at hd
                    rcases hd with rfl | rfl | rfl | rfl | rfl | rfl | rfl | rfl | rfl | rfl | rfl | rfl | rfl | rfl | rfl | rfl
                    all_goals rfl
                  case hloc6 =>
                    intro j hj y y' W hk hx
                    have hj' : j = 12 ∨ j = 13 ∨ j = 14 ∨ j = 16 := by simpa [or_assoc] using hj
                    rcases hj' with rfl | rfl | rfl | rfl
                    · simp only [List.forall_mem_cons, List.not_mem_nil, false_imp_iff, implies_true, and_true] at hk
                      show _
                      simpa only [hk] using hx
                    · simp only [List.forall_mem_cons, List.not_mem_nil, false_imp_iff, implies_true, and_true] at hk
                      show _
                      simpa only [hk] using hx
                    · simp only [List.forall_mem_cons, List.not_mem_nil, false_imp_iff, implies_true, and_true] at hk
                      show _
                      simpa only [hk] using hx
                    · skip
                      exact hx
                  case hmono6 =>
                    intro j hj hlast b hbq y W W' hg hx
                    have hj' : j = 12 ∨ j = 13 ∨ j = 14 ∨ j = 16 := by simpa [or_assoc] using hj
                    rcases hj' with rfl | rfl | rfl | rfl
                    · exact hx
                    · obtain ⟨g, e, h1, h2, h3, h4⟩ := hx; exact ⟨g, e, h1, h2, h3, hg.far g _ _ (by decide) (.inr (.inl h3)) h4⟩
                    · obtain ⟨e, eA', ec', h1, h2, h3⟩ := hx; have hb1 := hbq rfl; subst hb1; exact ⟨e, eA', ec', h1, h2, hg.rowA (by decide) (.inr (.inr rfl)) h3⟩
                    · exact absurd hlast (by decide)
                  case hdone6 =>
                    intro y6 W6 hS hd
                    have x16 : (fun (y : Nat → Value) (W : World) => ∃ (e : EV) (eA' : Option Addr) (ec' : Nat), GE23 N e ∧ RowOf W wi.heap.size 47 13 EV.cells eA' ec' (Es ++ [e]) ∧ Blk W zb 39 #[.string NM, .slice eA' (Es.length + 1) ec']) y6 W6 := (hd 16 (by decide)).ex rfl
                    obtain ⟨ev, eA', ec', hge, hrow, hbox⟩ := x16
                    have HE7 := Lib.hid (show Ip wo wi W6 zb NM eA' ec' (Es ++ [ev]) N from ⟨hS.bel, hS.kx, by rw [List.length_append]; exact hbox, hrow, fun e he => by
                      rcases List.mem_append.1 he with he | he
                      · exact HIP.out.good e he
                      · rw [List.mem_singleton] at he; subst he; exact hge⟩)
                    clear hd hS hrow hbox hge HIP
                    go_wp2_with fail
                    go_roundw
                    case rel => exact ⟨i + 1, by have := HIT.out; omega, by go_num, ⟨yr + (1 + Y3), rfl, by omega, by push_cast; omega⟩, eA', ec', Es ++ [ev], HE7.out, by rw [List.length_append, HES.out]; rfl⟩
                    case measure => have := HIT.out; simp [intOf]; omega
                  case hstep6 =>
                    refine StepsOkB.cons (StepOkB.known rfl fun y W b hbq hS hd K' hK => ?_) ?_
                    · skip
                      clear hd
                      go_simp
                      exact hK.out _ _ rfl (GB.refl _ _ _ _ _) hS.or
                    refine StepsOkB.cons (StepOkB.known rfl fun y W b hbq hS hd K' hK => ?_) ?_
                    · skip
                      have e93 : y 93 = .pointer (some ⟨zb, 1, none⟩) := (hd 0 rfl).val rfl rfl
                      clear hd
                      have hb1 := hbq.1 (.inr rfl)
                      subst hb1
                      obtain ⟨v, hv, hv2⟩ := hS.own
                      obtain rfl := hv2 rfl
                      have hc := (hv.cell 1).trans rfl
                      go_simp
                      exact hK.out _ _ (by first | rfl | (simp only [e93]; done) | (simp only [e93]; rfl)) (GB.refl _ _ _ _ _) hS.or
                    refine StepsOkB.cons (StepOkB.known rfl fun y W b hbq hS hd K' hK => ?_) ?_
                    · skip
                      clear hd
                      have c0 := (hS.x.cell 0).trans rfl
                      have c1 := (hS.x.cell 1).trans rfl
                      have c2 := (hS.x.cell 2).trans rfl
                      have c3 := (hS.x.cell 3).trans rfl
                      have c4 := (hS.x.cell 4).trans rfl
                      have c5 := (hS.x.cell 5).trans rfl
                      have c6 := (hS.x.cell 6).trans rfl
                      have c7 := (hS.x.cell 7).trans rfl
                      go_simp
                      exact hK.out _ _ rfl (GB.refl _ _ _ _ _) hS.or
                    refine StepsOkB.cons (StepOkB.known rfl fun y W b hbq hS hd K' hK => ?_) ?_
                    · skip
                      clear hd
                      go_simp
                      exact hK.out _ _ rfl (GB.refl _ _ _ _ _) hS.or
                    refine StepsOkB.cons (StepOkB.known rfl fun y W b hbq hS hd K' hK => ?_) ?_
                    · skip
                      have e96 : y 96 = .int .i64 i := (hd 3 rfl).val rfl rfl
                      clear hd
                      have hF := HF.out
                      go_simp
                      exact hK.out _ _ (by first | rfl | (simp only [e96]; done) | (simp only [e96]; rfl)) (GB.refl _ _ _ _ _) hS.or
                    refine StepsOkB.cons (StepOkB.known rfl fun y W b hbq hS hd K' hK => ?_) ?_
                    · skip
                      clear hd
                      go_simp
                      exact hK.out _ _ rfl (GB.refl _ _ _ _ _) hS.or
                    refine StepsOkB.cons (StepOkB.known rfl fun y W b hbq hS hd K' hK => ?_) ?_
                    · skip
                      clear hd
                      go_simp
                      exact hK.out _ _ rfl (GB.refl _ _ _ _ _) hS.or
                    refine StepsOkB.cons (StepOkB.known rfl fun y W b hbq hS hd K' hK => ?_) ?_
                    · skip
                      clear hd
                      go_simp
                      exact hK.out _ _ rfl (GB.refl _ _ _ _ _) hS.or
                    refine StepsOkB.cons (StepOkB.known rfl fun y W b hbq hS hd K' hK => ?_) ?_
                    · skip
                      clear hd
                      go_simp
                      exact hK.out _ _ rfl (GB.refl _ _ _ _ _) hS.or
                    refine StepsOkB.cons (StepOkB.known rfl fun y W b hbq hS hd K' hK => ?_) ?_
                    · skip
                      have e101 : y 101 = .slice (some ⟨gl, ol, none⟩) L.length lc := (hd 8 rfl).val rfl rfl
                      clear hd
                      go_simp
                      exact hK.out _ _ (by first | rfl | (simp only [e101]; done) | (simp only [e101]; rfl)) (GB.refl _ _ _ _ _) hS.or
                    refine StepsOkB.cons (StepOkB.known rfl fun y W b hbq hS hd K' hK => ?_) ?_
                    · skip
                      have e102 : y 102 = .int .i64 L.length := (hd 9 rfl).val rfl rfl
                      clear hd
                      have hlw1 := HLW.out.1
                      have hlw2 := HLW.out.2
                      go_simp
                      exact hK.out _ _ (by first | rfl | (simp only [e102]; done) | (simp only [e102]; rfl)) (GB.refl _ _ _ _ _) hS.or
                    refine StepsOkB.cons (StepOkB.known rfl fun y W b hbq hS hd K' hK => ?_) ?_
                    · skip
                      have e100 : y 100 = .int .i64 i := (hd 7 rfl).val rfl rfl
                      have e103 : y 103 = .int .i64 ((L.length : Int) - 1) := (hd 10 rfl).val rfl rfl
                      clear hd
                      have hEn := HEn.out
                      go_simp
                      exact hK.out _ _ (by first | rfl | (simp only [e100, e103]; done) | (simp only [e100, e103]; rfl)) (GB.refl _ _ _ _ _) hS.or
                    refine StepsOkB.cons (StepOkB.other rfl fun y W b hbq hS hd K' hK => ?_) ?_
                    · skip
                      have e95 : y 95 = .agg #[.int .u8 x.kind, .int .u8 x.set, .int .u8 x.fmt, .int .u8 x.years, .int .u8 x.day, .int .u8 x.base, .int .i8 x.off, .int .i8 x.at_] := (hd 2 rfl).val rfl rfl
                      have e97 : y 97 = .bool F := (hd 4 rfl).val rfl rfl
                      have e98 : y 98 = .int .i64 N := (hd 5 rfl).val rfl rfl
                      have e99 : y 99 = .int .i64 (yr + (1 + Y3)) := (hd 6 rfl).val rfl rfl
                      have e104 : y 104 = .bool En := (hd 11 rfl).val rfl rfl
                      clear hd
                      go_simp
                      refine (era23_any x F N (yr + (1 + Y3)) En W HOK.out HN1.out (HVO.out.below hS.bel)).mono ?_
                      rintro e W' ⟨ev, rfl, hge, hc⟩
                      go_wp2_with fail
                      exact hK.out _ _ _ (by first | rfl | (simp only [e95, e97, e98, e99, e104]; done) | (simp only [e95, e97, e98, e99, e104]; rfl)) (GB.below _ hc) (hS.below hc).or (show ∃ e : EV, _ = Value.agg #[.int .i64 e.off, .int .i64 e.kind, .int .i64 e.save, .string e.set, .string e.fmt, .bool e.ui, .int .i64 e.uy, .int .i64 e.um, .int .i64 e.dk, .int .i64 e.dw, .int .i64 e.dd, .int .i64 e.asec, .int .i64 e.ab] ∧ GE23 N e from ⟨ev, rfl, hge⟩)
                    refine StepsOkB.cons (StepOkB.other rfl fun y W b hbq hS hd K' hK => ?_) ?_
                    · skip
                      have x12 : (fun (y : Nat → Value) (W : World) => ∃ e : EV, y 105 = .agg #[.int .i64 e.off, .int .i64 e.kind, .int .i64 e.save, .string e.set, .string e.fmt, .bool e.ui, .int .i64 e.uy, .int .i64 e.um, .int .i64 e.dk, .int .i64 e.dw, .int .i64 e.dd, .int .i64 e.asec, .int .i64 e.ab] ∧ GE23 N e) y W := (hd 12 rfl).ex rfl
                      clear hd
                      obtain ⟨ev, h1, hge⟩ := x12
                      have hle := hS.le
                      have hal := (Below.refl W.heap.size W).alloc (Nat.le_refl _) (.cells (EV.cells ev).toArray 47)
                      have HG := Lib.hid (And.intro (GB.below (B := 39) (T := 47) (N := wr.heap.size) b hal) (And.intro (hS.below hal) (Blk.new W 47 (EV.cells ev).toArray)))
                      clear hal
                      go_simp
                      exact hK.out _ _ _ (by first | rfl | (simp only [h1]; done) | (simp only [h1]; rfl)) HG.out.1 HG.out.2.1.or (show ∃ (g : Nat) (e : EV), _ = Value.slice (some ⟨g, 0, none⟩) 1 1 ∧ GE23 N e ∧ wr.heap.size ≤ g ∧ Blk _ g 47 (EV.cells e).toArray from ⟨W.heap.size, ev, rfl, hge, hle, HG.out.2.2⟩)
                    refine StepsOkB.cons (StepOkB.other rfl fun y W b hbq hS hd K' hK => ?_) ?_
                    · skip
                      have e94 : y 94 = .slice eA Es.length ec := (hd 1 rfl).val rfl rfl
                      have x13 : (fun (y : Nat → Value) (W : World) => ∃ (g : Nat) (e : EV), y 106 = .slice (some ⟨g, 0, none⟩) 1 1 ∧ GE23 N e ∧ wr.heap.size ≤ g ∧ Blk W g 47 (EV.cells e).toArray) y W := (hd 13 rfl).ex rfl
                      clear hd
                      have hb1 := hbq.1 (.inl rfl)
                      subst hb1
                      obtain ⟨g, ev, h1, hge, hg3, hblk⟩ := x13
                      have hle := hS.le
                      obtain ⟨hz, hbw⟩ := hS.ahead rfl
                      obtain ⟨i1, hi, hz0, hz1, hz2⟩ := info_parts infoEra
                      refine step_append_own (by rfl) _ _ 37 (by rfl) wi.heap.size 47 i1 _ 13 120 Tryd.underlying37 hi hz0 hz1 hz2 rfl (by decide) (.slice eA Es.length ec) Es.length (Es.flatMap EV.cells) (by first | rfl | (simp only [e94]; rfl)) hz ⟨g, 0, none⟩ 1 1 (EV.cells ev) (by first | rfl | (simp only [h1]; rfl)) rfl (blk_cells hblk) (one_era _) (by have := HEL.out; simp only [maxLen]; omega) (by have := HEL.out; omega) (Nat.le_trans HWI.out hle) ?_
                      intro v1 w6 hown hgr
                      obtain ⟨eA', ec', rfl⟩ := row_is hown
                      have hG := GB.grown (B := 39) (by decide) hz HZ0.out hgr
                      exact hK.out _ _ _ rfl hG (hS.grown HWO.out hz hgr) (show ∃ (e : EV) (eA'' : Option Addr) (ec'' : Nat), _ = Value.slice eA'' (Es.length + 1) ec'' ∧ GE23 N e ∧ RowOf _ wi.heap.size 47 13 EV.cells eA'' ec'' (Es ++ [e]) from ⟨ev, eA', ec', rfl, hge, by unfold RowOf; rw [List.length_append, List.flatMap_append, List.flatMap_singleton]; exact hown⟩)
                    refine StepsOkB.cons (StepOkB.known rfl fun y W b hbq hS hd K' hK => ?_) ?_
                    · skip
                      clear hd
                      go_simp
                      exact hK.out _ _ rfl (GB.refl _ _ _ _ _) hS.or
                    refine StepsOkB.cons (StepOkB.other rfl fun y W b hbq hS hd K' hK => ?_) ?_
                    · skip
                      have x14 : (fun (y : Nat → Value) (W : World) => ∃ (e : EV) (eA' : Option Addr) (ec' : Nat), y 107 = .slice eA' (Es.length + 1) ec' ∧ GE23 N e ∧ RowOf W wi.heap.size 47 13 EV.cells eA' ec' (Es ++ [e])) y W := (hd 14 rfl).ex rfl
                      have e108 : y 108 = .pointer (some ⟨zb, 1, none⟩) := (hd 15 rfl).val rfl rfl
                      clear hd
                      have hb1 := hbq.2 rfl
                      subst hb1
                      obtain ⟨ev, eA', ec', h1, hge, h2⟩ := x14
                      obtain ⟨v, hv, _⟩ := hS.own
                      have k1 := (hv.cell 1).trans rfl
                      have f1 := hv.frozen 1
                      have t1 := hv.set_ 1 (.slice eA' (Es.length + 1) ec')
                      have q1 := GB.set_ (T := 47) (N := wr.heap.size) true hv 1 (.slice eA' (Es.length + 1) ec')
                      have hs' := hS.set1 HZB.out (by have := HXB.out; omega) hv (.slice eA' (Es.length + 1) ec')
                      have HH := Lib.hid (And.intro t1 (And.intro q1 hs'))
                      clear t1 q1 hs'
                      go_simp
                      exact hK.out undef _ _ (by first | rfl | (simp only [h1, e108]; done) | (simp only [h1, e108]; rfl)) HH.out.2.1 HH.out.2.2 (show ∃ (e : EV) (eA' : Option Addr) (ec' : Nat), GE23 N e ∧ RowOf _ wi.heap.size 47 13 EV.cells eA' ec' (Es ++ [e]) ∧ Blk _ zb 39 #[.string NM, .slice eA' (Es.length + 1) ec'] from ⟨ev, eA', ec', hge, HH.out.2.1.rowA (by decide) (.inr (.inr rfl)) h2, HH.out.1⟩)
                    exact StepsOkB.nil
                · obtain rfl : i = L.length := by omega
                  have hea := HZP.out.below HIP.out.bel
                  have o1 := (hea.own.cell 1).trans rfl
                  have z0 := (HIP.out.box.cell 0).trans rfl
                  have z1 := (HIP.out.box.cell 1).trans rfl
                  have hal := (Below.refl wr.heap.size wr).alloc (Nat.le_refl _) (.cells #[.string NM, .slice eA Es.length ec] 39)
                  have HE5 := Lib.hid (hea.below hal)
                  have HNB := Lib.hid (Blk.new wr 39 #[.string NM, .slice eA Es.length ec])
                  have HER := Lib.hid ((RowOf.low HIP.out.row (show w1.heap.size ≤ wi.heap.size from Nat.le_trans HZP.out.kx.le hLL.out.2.2.2.1.size)).below hal)
                  have HGD := Lib.hid HIP.out.good
                  have HSZ := Lib.hid HE5.out.kx.le
                  obtain ⟨i2, hi2, hz0, hz1, hz2⟩ := info_parts infoZone
                  clear hea hal hip HIP
                  go_wp2_with (at_builtin; refine wpList_append_own _ rfl _ _ 28 rfl w1.heap.size 39 i2 _ 2 40 Tryd.underlying28 hi2 hz0 hz1 hz2 rfl (by decide) _ _ _ rfl HE5.out.zrow ⟨wr.heap.size, 0, none⟩ 1 1 [.string NM, .slice eA Es.length ec] rfl rfl (blk_cells HNB.out) (by simp [Value.oneCell']) (by have := HYL.out; have := HJT.out; have := HZL.out; simp only [maxLen]; omega) (by have := HYL.out; have := HJT.out; have := HZL.out; omega) HSZ.out ?_)
                  intro v1 W6 hown hgr hne
                  obtain ⟨yA', yc', rfl⟩ := row_is hown
                  have HRZ := Lib.hid (zrow_snoc (E := Es) hown)
                  have HE7 := Lib.hid (HE5.out.snoc (y := ⟨NM, eA, ec, Es⟩) (by have := HW1.out.2.2.2; omega) hgr HRZ.out HER.out ⟨by have := HES.out; have := HLN.out; show 1 ≤ Es.length ∧ Es.length ≤ 4; omega, HGD.out⟩)
                  have hob := blk_grown HE5.out.own HE5.out.zrow hgr (by have := HW1.out.2.2.2; omega)
                  have o2 := (hob.cell 1).trans rfl
                  have f2 := hob.frozen 1
                  clear hown hgr hne hob HE5 HNB HER HSZ z0 z1 o1 hi2 hz0 hz1 hz2
                  go_wp2_with fail
                  go_roundw
                  case rel => exact ⟨j + 1, by have := HJT.out; omega, by go_num, yA', yc', Y ++ [⟨NM, eA, ec, Es⟩], HE7.out, by rw [List.length_append, HYL.out]; rfl⟩
                  case measure => have := HJT.out; simp [intOf]; omega
          · obtain rfl : j = zs.length := by omega
            have HYN := Lib.hid (show 1 ≤ Y.length ∧ Y.length ≤ 3 from by have := HYL.out; have := HZL.out; omega)
            have c2 := ((HZP.out.kx.box HW1.out.1 (by have := HW1.out.2.2.2; omega) (by omega)).cell 2).trans rfl
            obtain ⟨M4, hM4, hM43⟩ : ∃ M : Nat, min (d.links.length : Int) 4 = (M : Int) ∧ M ≤ 4 ∧ M ≤ d.links.length ∧ M ≤ d.lc := ⟨(min (d.links.length : Int) 4).toNat, by omega, by have := HD.out.caps; omega⟩
            have HM4 := Lib.hid hM43
            have sl4 := slice_first 24 5 (by rfl) (by rfl) (fun _ => ⟨_, rfl⟩) d.lA d.links.length d.lc M4 hM43.2.2
            have hm4 : (M4 : Int) ≤ 4 := by omega
            clear hM43
            have HLP := Lib.hid (show Lp w wo wo (.slice rA RR.length rc) (.slice yA Y.length yc) none 0 [] from ⟨HZP.out.bel, KX.refl _ _, HZP.out.own, World.ownsRow_nil ..⟩)
            clear hzp hj
            go_wp2_with fail
            clear sl4 hM4 c2
            go_loopw [125] (fun i W => ∃ k : Nat, k ≤ M4 ∧ i = .int .i64 k ∧ ∃ kA kc K, Lp w wo W (.slice rA RR.length rc) (.slice yA Y.length yc) kA kc K ∧ K.length = k) (fun i _ => M4 - (intOf i).toNat)
            case atStart => exact ⟨0, Nat.zero_le _, rfl, none, 0, [], HLP.out, rfl⟩
            case round =>
              clear HLP
              obtain ⟨k, hk, rfl, kA, kc, K, hlp, hkl⟩ := hrel
              have HLP := Lib.hid hlp; have HKL := Lib.hid hkl
              clear hkl
              by_cases hkt : k < M4
              · have hki : (k : Int) < (M4 : Int) := by omega
                have hk0 : (0 : Int) ≤ (k : Int) := by omega
                have hk3 : (k : Int) ≤ 3 := by omega
                obtain ⟨n, hn⟩ : ∃ n, d.links[k]? = some n := ⟨_, List.getElem?_eq_getElem (by have := HM4.out; omega)⟩
                obtain ⟨gl, ol, hlA, _, hcl⟩ := (HD.out.links.below hlp.bel) k n hn
                obtain ⟨hn0, hn1⟩ := HD.out.nums n (List.mem_of_getElem? hn)
                have x0 : wr.cell? ⟨gl, ol + k, none⟩ = some (.int .u8 n) := by have q := hcl 0 _ rfl; simpa using q
                rw [hlA]
                have hz1 : (1 : Int) ≤ (zs.length : Int) := by have := HZL.out; omega
                obtain ⟨a, ha, ha3⟩ : ∃ a : Nat, n.tmod (zs.length : Int) = (a : Int) ∧ a < 10 := by
                  refine ⟨(n.tmod (zs.length : Int)).toNat, ?_, ?_⟩
                  · rw [Int.tmod_eq_emod_of_nonneg hn0]; have := Int.emod_nonneg n (show (zs.length : Int) ≠ 0 by omega); omega
                  · rw [Int.tmod_eq_emod_of_nonneg hn0]; have := Int.emod_lt_of_pos n (show (0 : Int) < (zs.length : Int) by omega); omega
                obtain ⟨b, hb, hb3⟩ : ∃ b : Nat, n.tmod ((zs.length : Int) + (k : Int)) = (b : Int) ∧ b < zs.length + k := by
                  refine ⟨(n.tmod ((zs.length : Int) + (k : Int))).toNat, ?_, ?_⟩
                  · rw [Int.tmod_eq_emod_of_nonneg hn0]; have := Int.emod_nonneg n (show (zs.length : Int) + (k : Int) ≠ 0 by omega); omega
                  · rw [Int.tmod_eq_emod_of_nonneg hn0]; have := Int.emod_lt_of_pos n (show (0 : Int) < (zs.length : Int) + (k : Int) by omega); omega
                have HB3 := Lib.hid hb3
                have hbk : (b : Int) ≤ 6 := by omega
                have hb0 : (0 : Int) ≤ (b : Int) := by omega
                have b0 : ((zs.length : Int) == 0) = false := by rw [beq_eq_false_iff_ne]; omega
                have d0 : ¬ ((zs.length : Int) = 0) := by omega
                have b1 : ((zs.length : Int) + (k : Int) == 0) = false := by rw [beq_eq_false_iff_ne]; omega
                have d1 : ¬ ((zs.length : Int) + (k : Int) = 0) := by omega
                have wz1 : IntKind.i64.wrap ((zs.length : Int) + (k : Int)) = (zs.length : Int) + (k : Int) := IntWalk.i64_in _ (by omega)
                obtain ⟨TA, hsA⟩ : ∃ NM, ∀ W : World, (Op.stringOp .add ⟨#[65, 114, 101, 97, 47, 90]⟩ (str [UInt8.ofNat (48 + a)])).run Tryd.prog W = .ok (.string NM) W := ⟨_, cat_run [65, 114, 101, 97, 47, 90] [UInt8.ofNat (48 + a)] (by simp)⟩
                have cA : ∀ W, VarsP W → Calls Tryd.prog 45 #[.int .i64 (a : Int)] W fun e w' => e = .returned (.string (str [UInt8.ofNat (48 + a)])) ∧ Below W.heap.size W w' := fun W h => itoa23 a _ rfl ha3 W h
                obtain ⟨KA, hKA⟩ : ∃ KS, str [UInt8.ofNat (48 + a)] = KS := ⟨_, rfl⟩
                rw [hKA] at hsA cA
                obtain ⟨TN, hsN⟩ : ∃ NM, ∀ W : World, (Op.stringOp .add ⟨#[79, 108, 100, 47, 76]⟩ (str [UInt8.ofNat (48 + k)])).run Tryd.prog W = .ok (.string NM) W := ⟨_, cat_run [79, 108, 100, 47, 76] [UInt8.ofNat (48 + k)] (by simp)⟩
                have cN : ∀ W, VarsP W → Calls Tryd.prog 45 #[.int .i64 (k : Int)] W fun e w' => e = .returned (.string (str [UInt8.ofNat (48 + k)])) ∧ Below W.heap.size W w' := fun W h => itoa23 k _ rfl (by omega) W h
                obtain ⟨KN, hKN⟩ : ∃ KS, str [UInt8.ofNat (48 + k)] = KS := ⟨_, rfl⟩
                rw [hKN] at hsN cN
                have HSN := Lib.hid hsN; have CN := Lib.hid cN
                have HKT := Lib.hid hkt
                have HVW := Lib.hid (hp.below hlp.bel)
                clear hKA hKN hn hcl hlA hlp hkt hsN cN ha3 hb3 hk
                go_wp2_with fail
                refine (cA wr HVW.out).mono ?_
                rintro e W2 ⟨rfl, hcA⟩
                have HCA := Lib.hid hcA
                clear x0 hcA cA
                go_upto_if 147 with fail
                clear hsA ha
                go_cut [16] (fun s16 wx => ∃ S, s16 = .string S ∧ Hid (Below wr.heap.size wr wx))
                case first =>
                  by_cases hge : zs.length ≤ b
                  · have hgi : (zs.length : Int) ≤ (b : Int) := by omega
                    have hgd : decide ((b : Int) < (zs.length : Int)) = false := by rw [decide_eq_false_iff_not]; omega
                    obtain ⟨c, hc, hc9⟩ : ∃ c : Nat, (b : Int) - (zs.length : Int) = (c : Int) ∧ c < 10 := ⟨b - zs.length, by omega, by omega⟩
                    have wc1 : IntKind.i64.wrap ((b : Int) - (zs.length : Int)) = (c : Int) := by rw [IntWalk.i64_in _ (by omega), hc]
                    obtain ⟨TC, hsC⟩ : ∃ NM, ∀ W : World, (Op.stringOp .add ⟨#[79, 108, 100, 47, 76]⟩ (str [UInt8.ofNat (48 + c)])).run Tryd.prog W = .ok (.string NM) W := ⟨_, cat_run [79, 108, 100, 47, 76] [UInt8.ofNat (48 + c)] (by simp)⟩
                    have cC : ∀ W, VarsP W → Calls Tryd.prog 45 #[.int .i64 (c : Int)] W fun e w' => e = .returned (.string (str [UInt8.ofNat (48 + c)])) ∧ Below W.heap.size W w' := fun W h => itoa23 c _ rfl hc9 W h
                    obtain ⟨KC, hKC⟩ : ∃ KS, str [UInt8.ofNat (48 + c)] = KS := ⟨_, rfl⟩
                    rw [hKC] at hsC cC
                    clear hKC
                    go_wp2_with fail
                    refine (cC _ (HVW.out.below HCA.out)).mono ?_
                    rintro e W3 ⟨rfl, hcC⟩
                    have HCC := Lib.hid (HCA.out.trans (hcC.mono HCA.out.size))
                    clear hcC cC
                    go_wp2_with fail
                    go_meet
                    exact ⟨TC, rfl, HCC⟩
                  · have hgi : (b : Int) < (zs.length : Int) := by omega
                    have hgd : decide ((zs.length : Int) ≤ (b : Int)) = false := by rw [decide_eq_false_iff_not]; omega
                    go_wp2_with fail
                    go_meet
                    exact ⟨TA, rfl, HCA⟩
                case rest =>
                  obtain ⟨S16, rfl, hbx⟩ := hcut
                  obtain ⟨wq, hwq⟩ : ∃ x, x = wc := ⟨_, rfl⟩
                  subst hwq
                  have HLQ := Lib.hid (HLP.out.below hbx.out)
                  have HVQ := Lib.hid (HVW.out.below hbx.out)
                  have HZ0 : Hid (∀ B, (Value.slice kA K.length kc).ownBlock = some B → B < wq.heap.size) := Lib.hid fun B hB => (World.ownsRow.lt HLQ.out.row B hB).2
                  have HWW := Lib.hid HZP.out.bel.size
                  have HKE : Hid (K.length ≤ 4) := Lib.hid (by have := HKL.out; have := HKT.out; omega)
                  clear hb b0 b1 d0 d1 wz1 hbx
                  go_upto_region 37 with fail
                  have hS0 := HLQ.out.mid

                  refine wp_region_shapeB [(some 154, []), (some 155, [0]), (some 156, []), (some 157, []), (some 158, [3]), (some 159, [4]), (some 160, [2, 5]), (some 161, [6]), (some 162, [1, 7, 4]), (some 163, [0, 1, 2, 3, 4, 5, 6, 7, 8]), (none, [9, 8, 8, 0, 1, 2, 3, 4, 5, 6, 7, 8])] (fun y => { tmps := #[.agg #[.slice d.sA d.sets.length d.sc, .slice d.zA d.zones.length d.zc, .slice (some ⟨gl, ol, none⟩) d.links.length d.lc], .pointer (some ⟨w.heap.size, 0, none⟩), .pointer (some ⟨w.heap.size + 1, 0, none⟩), .pointer (some ⟨w.heap.size + 1 + 1, 0, none⟩), .int .i64 N, u5, u6, .slice zA zs.length zc, u8, u9, u10, u11, u12, u13, .int .i64 k, .int .u8 n, .string S16, .int .i64 b, u18, u19, u20, u21, u22, .int .i64 N, .int .i64 N, u25, u26, u27, u28, u29, u30, u31, u32, u33, u34, u35, u36, u37, u38, u39, u40, u41, u42, u43, u44, u45, u46, u47, u48, u49, u50, u51, u52, u53, u54, u55, u56, u57, .slice zA zs.length zc, .int .i64 zs.length, .int .i64 zs.length, .bool false, u62, u63, u64, u65, u66, u67, u68, u69, u70, u71, u72, u73, u74, u75, u76, u77, u78, u79, u80, u81, u82, u83, u84, u85, u86, u87, u88, u89, u90, u91, u92, u93, u94, u95, u96, u97, u98, u99, u100, u101, u102, u103, u104, u105, u106, u107, u108, u109, u110, u111, u112, u113, u114, u115, u116, .pointer (some ⟨w.heap.size, 2, none⟩), .slice (some ⟨gl, ol, none⟩) d.links.length d.lc, .pointer (some ⟨w.heap.size, 2, none⟩), .slice (some ⟨gl, ol, none⟩) d.links.length d.lc, .int .i64 d.links.length, .int .i64 M4, .slice (some ⟨gl, ol, none⟩) M4 d.lc, .int .i64 M4, .int .i64 k, u126, u127, u128, u129, u130, u131, u132, u133, u134, u135, u136, u137, u138, u139, u140, u141, u142, u143, u144, u145, u146, u147, u148, u149, u150, u151, u152, u153, y 154, y 155, y 156, y 157, y 158, y 159, y 160, y 161, y 162, y 163, u164, u165], defers := [] }) (fun k => match k with | 154 => u154 | 155 => u155 | 156 => u156 | 157 => u157 | 158 => u158 | 159 => u159 | 160 => u160 | 161 => u161 | 162 => u162 | 163 => u163 | _ => undef) (fun j => j == 7 || j == 8 || j == 10) [.pointer (some ⟨w.heap.size + 1 + 1, 2, none⟩), .slice kA K.length kc, .string S16, .int .i64 k, .string KN, .string TN, .agg #[.string S16, .string TN], undef, undef, .pointer (some ⟨w.heap.size + 1 + 1, 2, none⟩), undef] (fun j y W => match j with | 7 => ∃ g : Nat, y 161 = .slice (some ⟨g, 0, none⟩) 1 1 ∧ wq.heap.size ≤ g ∧ Blk W g 94 #[.string S16, .string TN] | 8 => ∃ (kA' : Option Addr) (kc' : Nat), y 162 = .slice kA' (K.length + 1) kc' ∧ RowOf W wo.heap.size 94 2 KV.cells kA' kc' (K ++ [⟨S16, TN⟩]) | 10 => ∃ (kA' : Option Addr) (kc' : Nat), RowOf W wo.heap.size 94 2 KV.cells kA' kc' (K ++ [⟨S16, TN⟩]) ∧ Blk W (w.heap.size + 1 + 1) 32 #[.slice rA RR.length rc, .slice yA Y.length yc, .slice kA' (K.length + 1) kc', .slice none 0 0] | _ => True) (fun j => match j with | 7 => [161] | 8 => [162] | 10 => [] | _ => []) 8 (fun b => GB 32 94 wq.heap.size b) (fun b W => Lm w wo W (.slice rA RR.length rc) (.slice yA Y.length yc) kA kc K b wq) (by kernel_rfl) (by kernel_rfl) (by decide +kernel) rfl (hS0.below (Below.refl _ _).drew) ?hput7 ?hloc7 ?hmono7 ?hstep7 ?hdone7
                  case hput7 =>
                    intro d hd y v
                    simp only [List.filterMap_cons, List.filterMap_nil, List.mem_cons, List.not_mem_nil, or_false] at hd
                    rcases hd with rfl | rfl | rfl | rfl | rfl | rfl | rfl | rfl | rfl | rfl
                    all_goals rfl
                  case hloc7 =>
                    intro j hj y y' W hk hx
                    have hj' : j = 7 ∨ j = 8 ∨ j = 10 := by simpa [or_assoc] using hj
                    rcases hj' with rfl | rfl | rfl
                    · simp only [List.forall_mem_cons, List.not_mem_nil, false_imp_iff, implies_true, and_true] at hk
                      show _
                      simpa only [hk] using hx
                    · simp only [List.forall_mem_cons, List.not_mem_nil, false_imp_iff, implies_true, and_true] at hk
                      show _
                      simpa only [hk] using hx
                    · skip
                      exact hx
                  case hmono7 =>
                    intro j hj hlast b hbq y W W' hg hx
                    have hj' : j = 7 ∨ j = 8 ∨ j = 10 := by simpa [or_assoc] using hj
                    rcases hj' with rfl | rfl | rfl
                    · obtain ⟨g, h1, h3, h4⟩ := hx; exact ⟨g, h1, h3, hg.far g _ _ (by decide) (.inr (.inl h3)) h4⟩
                    · obtain ⟨kA', kc', h1, h3⟩ := hx; have hb1 := hbq rfl; subst hb1; exact ⟨kA', kc', h1, hg.rowA (by decide) (.inr (.inr rfl)) h3⟩
                    · exact absurd hlast (by decide)
                  case hdone7 =>
                    intro y7 W7 hS hd
                    have x10 : (fun (y : Nat → Value) (W : World) => ∃ (kA' : Option Addr) (kc' : Nat), RowOf W wo.heap.size 94 2 KV.cells kA' kc' (K ++ [⟨S16, TN⟩]) ∧ Blk W (w.heap.size + 1 + 1) 32 #[.slice rA RR.length rc, .slice yA Y.length yc, .slice kA' (K.length + 1) kc', .slice none 0 0]) y7 W7 := (hd 10 (by decide)).ex rfl
                    obtain ⟨kA', kc', hrow, hbox⟩ := x10
                    have HE7 := Lib.hid (show Lp w wo W7 (.slice rA RR.length rc) (.slice yA Y.length yc) kA' kc' (K ++ [⟨S16, TN⟩]) from ⟨hS.bel, hS.kx, by rw [List.length_append]; exact hbox, hrow⟩)
                    clear hd hS hrow hbox
                    go_wp2_with fail
                    go_roundw
                    case rel => exact ⟨k + 1, by have := HKT.out; omega, by go_num, kA', kc', K ++ [⟨S16, TN⟩], HE7.out, by rw [List.length_append, HKL.out]; rfl⟩
                    case measure => have := HKT.out; simp [intOf]; omega
                  case hstep7 =>
                    refine StepsOkB.cons (StepOkB.known rfl fun y W b hbq hS hd K' hK => ?_) ?_
                    · skip
                      clear hd
                      go_simp
                      exact hK.out _ _ rfl (GB.refl _ _ _ _ _) hS.or
                    refine StepsOkB.cons (StepOkB.known rfl fun y W b hbq hS hd K' hK => ?_) ?_
                    · skip
                      have e154 : y 154 = .pointer (some ⟨w.heap.size + 1 + 1, 2, none⟩) := (hd 0 rfl).val rfl rfl
                      clear hd
                      have hb1 := hbq.1 (.inr rfl)
                      subst hb1
                      obtain ⟨v, hv, hv2⟩ := hS.own
                      obtain rfl := hv2 rfl
                      have hc := (hv.cell 2).trans rfl
                      go_simp
                      exact hK.out _ _ (by first | rfl | (simp only [e154]; done) | (simp only [e154]; rfl)) (GB.refl _ _ _ _ _) hS.or
                    refine StepsOkB.cons (StepOkB.known rfl fun y W b hbq hS hd K' hK => ?_) ?_
                    · skip
                      clear hd
                      go_simp
                      exact hK.out _ _ rfl (GB.refl _ _ _ _ _) hS.or
                    refine StepsOkB.cons (StepOkB.known rfl fun y W b hbq hS hd K' hK => ?_) ?_
                    · skip
                      clear hd
                      go_simp
                      exact hK.out _ _ rfl (GB.refl _ _ _ _ _) hS.or
                    refine StepsOkB.cons (StepOkB.known rfl fun y W b hbq hS hd K' hK => ?_) ?_
                    · skip
                      have e157 : y 157 = .int .i64 k := (hd 3 rfl).val rfl rfl
                      clear hd
                      go_simp
                      refine (CN.out _ (hp.below hS.bel)).mono ?_
                      rintro e W' ⟨rfl, hc⟩
                      go_wp2_with fail
                      exact hK.out _ _ (by first | rfl | (simp only [e157]; done) | (simp only [e157]; rfl)) (GB.below _ hc) (hS.below hc).or
                    refine StepsOkB.cons (StepOkB.known rfl fun y W b hbq hS hd K' hK => ?_) ?_
                    · skip
                      have e158 : y 158 = .string KN := (hd 4 rfl).val rfl rfl
                      clear hd
                      have hsum := HSN.out
                      go_simp
                      exact hK.out _ _ (by first | rfl | (simp only [e158]; done) | (simp only [e158]; rfl)) (GB.refl _ _ _ _ _) hS.or
                    refine StepsOkB.cons (StepOkB.known rfl fun y W b hbq hS hd K' hK => ?_) ?_
                    · skip
                      have e156 : y 156 = .string S16 := (hd 2 rfl).val rfl rfl
                      have e159 : y 159 = .string TN := (hd 5 rfl).val rfl rfl
                      clear hd
                      go_simp
                      exact hK.out _ _ (by first | rfl | (simp only [e156, e159]; done) | (simp only [e156, e159]; rfl)) (GB.refl _ _ _ _ _) hS.or
                    refine StepsOkB.cons (StepOkB.other rfl fun y W b hbq hS hd K' hK => ?_) ?_
                    · skip
                      have e160 : y 160 = .agg #[.string S16, .string TN] := (hd 6 rfl).val rfl rfl
                      clear hd
                      have hle := hS.le
                      have hal := (Below.refl W.heap.size W).alloc (Nat.le_refl _) (.cells #[.string S16, .string TN] 94)
                      have HG := Lib.hid (And.intro (GB.below (B := 32) (T := 94) (N := wq.heap.size) b hal) (And.intro (hS.below hal) (Blk.new W 94 #[.string S16, .string TN])))
                      clear hal
                      go_simp
                      exact hK.out _ _ _ (by first | rfl | (simp only [e160]; done) | (simp only [e160]; rfl)) HG.out.1 HG.out.2.1.or (show ∃ g : Nat, _ = Value.slice (some ⟨g, 0, none⟩) 1 1 ∧ wq.heap.size ≤ g ∧ Blk _ g 94 #[.string S16, .string TN] from ⟨W.heap.size, rfl, hle, HG.out.2.2⟩)
                    refine StepsOkB.cons (StepOkB.other rfl fun y W b hbq hS hd K' hK => ?_) ?_
                    · skip
                      have e155 : y 155 = .slice kA K.length kc := (hd 1 rfl).val rfl rfl
                      have x7 : (fun (y : Nat → Value) (W : World) => ∃ g : Nat, y 161 = .slice (some ⟨g, 0, none⟩) 1 1 ∧ wq.heap.size ≤ g ∧ Blk W g 94 #[.string S16, .string TN]) y W := (hd 7 rfl).ex rfl
                      clear hd
                      have hb1 := hbq.1 (.inl rfl)
                      subst hb1
                      obtain ⟨g, h1, hg3, hblk⟩ := x7
                      have hle := hS.le
                      obtain ⟨hz, hbw⟩ := hS.ahead rfl
                      obtain ⟨i1, hi, hz0, hz1, hz2⟩ := info_parts infoLink
                      refine step_append_own (by rfl) _ _ 29 (by rfl) wo.heap.size 94 i1 _ 2 32 Tryd.underlying29 hi hz0 hz1 hz2 rfl (by decide) (.slice kA K.length kc) K.length (K.flatMap KV.cells) (by first | rfl | (simp only [e155]; rfl)) hz ⟨g, 0, none⟩ 1 1 [.string S16, .string TN] (by first | rfl | (simp only [h1]; rfl)) rfl (blk_cells hblk) (by simp [Value.oneCell']) (by have := HKE.out; simp only [maxLen]; omega) (by have := HKE.out; omega) (Nat.le_trans HLQ.out.kx.le hle) ?_
                      intro v1 w6 hown hgr
                      obtain ⟨kA', kc', rfl⟩ := row_is hown
                      have hG := GB.grown (B := 32) (by decide) hz HZ0.out hgr
                      exact hK.out _ _ _ rfl hG (hS.grown HWW.out hz hgr) (show ∃ (kA'' : Option Addr) (kc'' : Nat), _ = Value.slice kA'' (K.length + 1) kc'' ∧ RowOf _ wo.heap.size 94 2 KV.cells kA'' kc'' (K ++ [⟨S16, TN⟩]) from ⟨kA', kc', rfl, by unfold RowOf; rw [List.length_append, List.flatMap_append, List.flatMap_singleton]; exact hown⟩)
                    refine StepsOkB.cons (StepOkB.known rfl fun y W b hbq hS hd K' hK => ?_) ?_
                    · skip
                      clear hd
                      go_simp
                      exact hK.out _ _ rfl (GB.refl _ _ _ _ _) hS.or
                    refine StepsOkB.cons (StepOkB.other rfl fun y W b hbq hS hd K' hK => ?_) ?_
                    · skip
                      have x8 : (fun (y : Nat → Value) (W : World) => ∃ (kA' : Option Addr) (kc' : Nat), y 162 = .slice kA' (K.length + 1) kc' ∧ RowOf W wo.heap.size 94 2 KV.cells kA' kc' (K ++ [⟨S16, TN⟩])) y W := (hd 8 rfl).ex rfl
                      have e163 : y 163 = .pointer (some ⟨w.heap.size + 1 + 1, 2, none⟩) := (hd 9 rfl).val rfl rfl
                      clear hd
                      have hb1 := hbq.2 rfl
                      subst hb1
                      obtain ⟨kA', kc', h1, h2⟩ := x8
                      obtain ⟨v, hv, _⟩ := hS.own
                      have k2 := (hv.cell 2).trans rfl
                      have f2 := hv.frozen 2
                      have t1 := hv.set_ 2 (.slice kA' (K.length + 1) kc')
                      have q1 := GB.set_ (T := 94) (N := wq.heap.size) true hv 2 (.slice kA' (K.length + 1) kc')
                      have hs' := hS.set1 hv (.slice kA' (K.length + 1) kc')
                      have HH := Lib.hid (And.intro t1 (And.intro q1 hs'))
                      clear t1 q1 hs'
                      go_simp
                      exact hK.out undef _ _ (by first | rfl | (simp only [h1, e163]; done) | (simp only [h1, e163]; rfl)) HH.out.2.1 HH.out.2.2 (show ∃ (kA' : Option Addr) (kc' : Nat), RowOf _ wo.heap.size 94 2 KV.cells kA' kc' (K ++ [⟨S16, TN⟩]) ∧ Blk _ (w.heap.size + 1 + 1) 32 #[.slice rA RR.length rc, .slice yA Y.length yc, .slice kA' (K.length + 1) kc', .slice none 0 0] from ⟨kA', kc', HH.out.2.1.rowA (by decide) (.inr (.inr rfl)) h2, HH.out.1⟩)
                    exact StepsOkB.nil
              · obtain rfl : k = M4 := by omega
                have HRES := Lib.hid (hlp.kx.box (HZP.out.kx.box HW1.out.2.1 (by have := HW1.out.2.2.2; omega) (by omega)) (by have := HW1.out.2.2.2; have := HZP.out.kx.le; omega) (by omega))
                have q0 := (hlp.box.cell 0).trans rfl; have q1 := (hlp.box.cell 1).trans rfl; have q2 := (hlp.box.cell 2).trans rfl; have q3 := (hlp.box.cell 3).trans rfl
                have f0 := HRES.out.frozen 0; have f1 := HRES.out.frozen 1; have f2 := HRES.out.frozen 2; have f3 := HRES.out.frozen 3
                have r0 := (HRES.out.cell 0).trans rfl; have r1 := (HRES.out.cell 1).trans rfl; have r2 := (HRES.out.cell 2).trans rfl; have r3 := (HRES.out.cell 3).trans rfl
                have HR4 := Lib.hid (GS.set4 HRES.out (.slice rA RR.length rc) (.slice yA Y.length yc) (.slice kA K.length kc) (.slice none 0 0))
                have k0 := (HR4.out.2.cell 0).trans rfl; have k1 := (HR4.out.2.cell 1).trans rfl; have k2 := (HR4.out.2.cell 2).trans rfl; have k3 := (HR4.out.2.cell 3).trans rfl
                clear hlp
                go_wp2_with fail
                refine bodyPost_ret (v := .agg #[.slice rA RR.length rc, .slice yA Y.length yc, .slice kA K.length kc, .slice none 0 0]) (by simp [results, Tryd.results13, go_sem, k0, k1, k2, k3]) rfl ?_
                refine ⟨⟨rA, rc, RR, yA, yc, Y, kA, kc, K, none, 0, []⟩, rfl, fun V hv => ?_, ?_, below_set4 HLP.out.bel (by omega) _ _ _ _⟩
                · have hg := HR4.out.1.trans hv
                  have hGw : w.heap.size + 1 + 1 < w1.heap.size := by have := HW1.out.2.2.2; omega
                  have hle := HZP.out.kx.le
                  exact ⟨(hg.row (by decide) (HLP.out.kx.row rfl (by omega) (HZP.out.kx.row rfl (by omega) HW1.out.2.2.1))).cellsIn len_rule, (hg.row (by decide) (HLP.out.kx.row rfl (by omega) HZP.out.zrow)).cellsIn len_zone, (hg.row (by decide) HLP.out.row).cellsIn len_link, CellsIn.nil _ _,
                    fun z hz => (hg.row (by decide) (HLP.out.kx.row rfl (by omega) (HZP.out.eras z hz))).cellsIn len_era⟩
                · have hN := HN1.out.2
                  exact ⟨HYN.out, ⟨by have := rulesTo_len d.dr N; show RR.length ≤ 15; rw [HRR.out]; omega, by have := HKL.out; have := HM4.out; show K.length ≤ 4; omega, rfl⟩, fun z hz => (HZP.out.good z hz).1, fun z hz e he => by
                    have q := ((HZP.out.good z hz).2 e he).good (D := d.dr) hN
                    show GoodE RR e
                    rw [HRR.out]; exact q, by
                    show SvOk RR
                    rw [HRR.out]; exact rules_sv d.dr N⟩
end Go.Proofs.YtlideagcmhlkeaaDoor

/- The law on regions that draw their order once more: what is kept may speak of the slots that are made. No function of the program. -/
namespace Go.Proofs.YtlideagcmhlkeaaDoor
open Go
set_option linter.unusedVariables false

section
variable {P : Program} {ops : Array Oper} {Q : Exit → Act → World → Prop}
/-- a step of the law: operation i alone -/
def StepOkY (P : Program) (ops : Array Oper) (Q : Exit → Act → World → Prop) (fr : (Nat → Value) → Act) (sh : List (Option Nat × List Nat)) (sp : Nat → Bool) (vals : List Value) (X : Nat → (Nat → Value) → World → Prop) (G : World → World → Prop) (S : (Nat → Value) → World → Prop) (i : Nat) (o : Oper) : Prop :=
  ∀ y w, S y w → (∀ d, (sdeps sh i).contains d = true → LeftS sh (valOf sp vals) X d y w) →
    ∀ K' : Act → World → Prop, Shut (∀ v a' w', a' = (fr y).put o.dst v → G w w' → S (upd y o.dst v) w' → (valOf sp vals i = some v ∨ (valOf sp vals i = none ∧ X i (upd y o.dst v) w')) → K' a' w') →
      if Region.wanted o (yielded ops (fr y).tmps) = true then Oper.wp P o (fr y) w K' Q else K' ((fr y).put o.dst undef) w
def StepsOkY (P : Program) (ops : Array Oper) (Q : Exit → Act → World → Prop) (fr : (Nat → Value) → Act) (sh : List (Option Nat × List Nat)) (sp : Nat → Bool) (vals : List Value) (X : Nat → (Nat → Value) → World → Prop) (G : World → World → Prop) (S : (Nat → Value) → World → Prop) (i : Nat) (l : List Oper) : Prop :=
  ∀ k o, l[k]? = some o → StepOkY P ops Q fr sh sp vals X G S (i + k) o
section
variable {fr : (Nat → Value) → Act} {sh : List (Option Nat × List Nat)} {sp : Nat → Bool} {vals : List Value} {X : Nat → (Nat → Value) → World → Prop} {G : World → World → Prop} {S : (Nat → Value) → World → Prop}
theorem StepsOkY.nil {i : Nat} : StepsOkY P ops Q fr sh sp vals X G S i [] := fun k o h => by simp at h
theorem StepsOkY.cons {i : Nat} {o : Oper} {l : List Oper} (h : StepOkY P ops Q fr sh sp vals X G S i o) (hl : StepsOkY P ops Q fr sh sp vals X G S (i + 1) l) : StepsOkY P ops Q fr sh sp vals X G S i (o :: l) := fun k o' ho => by
  cases k with
  | zero => rw [List.getElem?_cons_zero] at ho; injection ho with ho; subst ho; exact h
  | succ k =>
    rw [List.getElem?_cons_succ] at ho
    have := hl k o' ho
    rwa [show i + 1 + k = i + (k + 1) by omega] at this
/-- a step whose value is known ahead -/
theorem StepOkY.known {i : Nat} {o : Oper} (hi : sp i = false) (h : ∀ y w, S y w → (∀ d, (sdeps sh i).contains d = true → LeftS sh (valOf sp vals) X d y w) →
    ∀ K' : Act → World → Prop, Shut (∀ a' w', a' = (fr y).put o.dst (vals.getD i undef) → G w w' → S (upd y o.dst (vals.getD i undef)) w' → K' a' w') →
      if Region.wanted o (yielded ops (fr y).tmps) = true then Oper.wp P o (fr y) w K' Q else K' ((fr y).put o.dst undef) w) : StepOkY P ops Q fr sh sp vals X G S i o :=
  fun y w hS hd K' hK => h y w hS hd K' fun a' w' ha hG hS' => hK _ a' w' ha hG hS' (.inl (by unfold valOf; rw [if_neg (by rw [hi]; decide)]))
/-- a step whose value is not known ahead -/
theorem StepOkY.other {i : Nat} {o : Oper} (hi : sp i = true) (h : ∀ y w, S y w → (∀ d, (sdeps sh i).contains d = true → LeftS sh (valOf sp vals) X d y w) →
    ∀ K' : Act → World → Prop, Shut (∀ v a' w', a' = (fr y).put o.dst v → G w w' → S (upd y o.dst v) w' → X i (upd y o.dst v) w' → K' a' w') →
      if Region.wanted o (yielded ops (fr y).tmps) = true then Oper.wp P o (fr y) w K' Q else K' ((fr y).put o.dst undef) w) : StepOkY P ops Q fr sh sp vals X G S i o :=
  fun y w hS hd K' hK => h y w hS hd K' fun v a' w' ha hG hS' hx => hK v a' w' ha hG hS' (.inr ⟨by unfold valOf; rw [if_pos hi], hx⟩)
end
end
end Go.Proofs.YtlideagcmhlkeaaDoor

/- Two boxes of eras that one drawn region makes and writes, whichever comes first (for ExpandAbbrs). No function of the program. -/
namespace Go.Proofs.YtlideagcmhlkeaaDoor
open Go.RowKit
set_option linter.unusedVariables false

/-- where the region stands: what slots 10 and 11 point to -/
structure Two (wi : World) (f : EV) (y : Nat → Value) (W : World) : Prop where
  bel : Below wi.heap.size wi W
  a : ∀ g, y 10 = .pointer (some ⟨g, 0, none⟩) → wi.heap.size ≤ g → ∃ cs : Array Value, cs.size = 13 ∧ Blk W g 47 cs
  b : ∀ g, y 11 = .pointer (some ⟨g, 0, none⟩) → wi.heap.size ≤ g → Blk W g 47 #[.int .i64 0, .int .i64 0, .int .i64 0, .string ⟨#[]⟩, .string ⟨#[]⟩, .bool false, .int .i64 0, .int .i64 0, .int .i64 0, .int .i64 0, .int .i64 0, .int .i64 0, .int .i64 0] ∨ Blk W g 47 #[.int .i64 f.off, .int .i64 f.kind, .int .i64 f.save, .string f.set, .string f.fmt, .bool f.ui, .int .i64 f.uy, .int .i64 f.um, .int .i64 f.dk, .int .i64 f.dw, .int .i64 f.dd, .int .i64 f.asec, .int .i64 f.ab]
  c : ∀ g g', y 10 = .pointer (some ⟨g, 0, none⟩) → y 11 = .pointer (some ⟨g', 0, none⟩) → wi.heap.size ≤ g → wi.heap.size ≤ g' → g ≠ g'
/-- boxes that hold the era keep it -/
def GC (e : EV) (W W' : World) : Prop := ∀ g, Blk W g 47 #[.int .i64 e.off, .int .i64 e.kind, .int .i64 e.save, .string e.set, .string e.fmt, .bool e.ui, .int .i64 e.uy, .int .i64 e.um, .int .i64 e.dk, .int .i64 e.dw, .int .i64 e.dd, .int .i64 e.asec, .int .i64 e.ab] → Blk W' g 47 #[.int .i64 e.off, .int .i64 e.kind, .int .i64 e.save, .string e.set, .string e.fmt, .bool e.ui, .int .i64 e.uy, .int .i64 e.um, .int .i64 e.dk, .int .i64 e.dw, .int .i64 e.dd, .int .i64 e.asec, .int .i64 e.ab]
section
variable {wi W : World} {e f : EV} {y : Nat → Value}
theorem GC.refl (e : EV) (W : World) : GC e W W := fun _ h => h
theorem Two.u (h : Two wi f y W) {d : Nat} {v : Value} (h1 : 10 ≠ d) (h2 : 11 ≠ d) : Two wi f (upd y (some d) v) W :=
  ⟨h.bel, fun g hg => h.a g (by rw [← hg]; show y 10 = if 10 = d then v else y 10; rw [if_neg h1]), fun g hg => h.b g (by rw [← hg]; show y 11 = if 11 = d then v else y 11; rw [if_neg h2]), fun g g' hg hg' => h.c g g' (by rw [← hg]; show y 10 = if 10 = d then v else y 10; rw [if_neg h1]) (by rw [← hg']; show y 11 = if 11 = d then v else y 11; rw [if_neg h2])⟩
theorem GC.alloc (e : EV) (W : World) (ob : Obj) : GC e W (W.alloc ob) := fun g h => h.alloc ob
end
end Go.Proofs.YtlideagcmhlkeaaDoor

/- What the steps of a drawn region keep that makes a box of one type (two cells) and writes it. No function of the program. -/
namespace Go.Proofs.YtlideagcmhlkeaaDoor
open Go.RowKit
set_option linter.unusedVariables false

/-- blocks that are no boxes of the type stay; boxes of the type stay boxes of the type -/
structure G2 (B : TypeId) (W W' : World) : Prop where
  far : ∀ (g : Nat) (e : TypeId) (cur : Array Value), e ≠ B → Blk W g e cur → Blk W' g e cur
  own : ∀ g, (∃ a b, Blk W g B #[a, b]) → ∃ a b, Blk W' g B #[a, b]
section
variable {B : TypeId} {W W' : World}
theorem G2.refl (B : TypeId) (W : World) : G2 B W W := ⟨fun _ _ _ _ h => h, fun _ h => h⟩
theorem G2.below (h : Below W.heap.size W W') : G2 B W W' := ⟨fun g e cur _ hb => hb.below h hb.lt, fun g ⟨a, b, hb⟩ => ⟨a, b, hb.below h hb.lt⟩⟩
theorem G2.alloc (B : TypeId) (W : World) (ob : Obj) : G2 B W (W.alloc ob) := G2.below ((Below.refl _ W).alloc (Nat.le_refl _) ob)
theorem G2.trans {A C : World} (h : G2 B A W) (k : G2 B W C) : G2 B A C := ⟨fun g e cur he hb => k.far g e cur he (h.far g e cur he hb), fun g hb => k.own g (h.own g hb)⟩
theorem G2.set_ {g : Nat} {a b : Value} (hb : Blk W g B #[a, b]) (n : Nat) (u : Value) : G2 B W (W.setCell ⟨g, n, none⟩ u) := by
  refine ⟨fun g' e cur he h' => h'.far (p := ⟨g, n, none⟩) (fun q => he ?_) u, fun g' ⟨a', b', hb'⟩ => ?_⟩
  · have q' : g' = g := q
    subst q'
    unfold Blk at hb h'
    rw [hb] at h'
    injection h' with h'
    injection h' with _ h' _
    exact h'.symm
  · by_cases q : g' = g
    · subst q
      have := hb.set_ n u
      match n with
      | 0 | 1 => exact ⟨_, _, this⟩
      | n + 2 =>
        rw [Array.setIfInBounds, dif_neg (by simp)] at this
        exact ⟨_, _, this⟩
    · exact ⟨a', b', hb'.far q u⟩
end
/-- one of three letters -/
def l3 (k : Nat) : ByteArray := if k = 0 then ⟨#[]⟩ else if k = 1 then ⟨#[83]⟩ else ⟨#[68]⟩
end Go.Proofs.YtlideagcmhlkeaaDoor

/- What the rows' list of variables, and the world's shape, give the walks of chapters 21 and 24. -/
namespace Go.Proofs.YtlideagcmhlkeaaDoor
open Go.RowKit
set_option linter.unusedVariables false

theorem tSyn : (Tryd.prog.globals[3]?).map (·.type) = some 161 := by kernel_rfl
theorem cErr : Tryd.prog.cellsOf 219 = 1 := by kernel_rfl
theorem cStr : Tryd.prog.cellsOf 9 = 1 := by kernel_rfl
theorem starErr : "*" ++ "errors.errorString" = "*errors.errorString" := by decide
theorem rowErr (u : TypeId) (h : Tryd.prog.typeName? 3 u = some "*errors.errorString") : u = 217 := by
  exact typeName_ptr_named (nm := "errors.errorString") (by rw [starErr]; kernel_rfl) (by kernel_rfl) (by decide) u (by rw [starErr]; exact h)
theorem vars21_of {W : World} {rest : List (String × DataW Unit)} (h4 : laidMet Tryd.prog (("strconv.ErrSyntax", Rows.laid_strconv_ErrSyntax) :: rest) W) (hsh : W.ShapedOpen Tryd.prog) : Vars21 W := by
  obtain ⟨a, s, hs, _, _, _⟩ := laid_sentinel h4 gSyn tSyn Tryd.underlying161 rowErr Tryd.underlying217 Tryd.underlying219 rfl rfl Tryd.underlying9 cErr cStr
  have lt : ∀ {g : Nat} {n : String} {cs : Array Value}, Tryd.prog.globalNamed n = some g → W.var? Tryd.prog n = some cs → g < W.heap.size := by
    intro g n cs hg hv
    unfold World.var? at hv
    simp only [hg, Option.bind_some] at hv
    rcases Nat.lt_or_ge g W.heap.size with q | q
    · exact q
    · rw [Array.getElem?_eq_none q] at hv; cases hv
  have hm := Tryd.laysM145.s1_3 W hsh
  have hlt : 1 < W.heap.size := by
    obtain ⟨m, hm⟩ := hm
    rcases Nat.lt_or_ge 1 W.heap.size with q | q
    · exact q
    · exfalso
      have hm' : W.cell? ⟨1, 0, none⟩ = some (.int .i64 m) := hm
      unfold World.cell? at hm'
      rw [Array.getElem?_eq_none q] at hm'
      cases hm'
  exact ⟨⟨⟨_, _, hs⟩, lt gSyn hs⟩, hm, hlt⟩
end Go.Proofs.YtlideagcmhlkeaaDoor

/- What the rows' list of variables gives the walks of chapter 30 that make sources of layer 23. -/
namespace Go.Proofs.YtlideagcmhlkeaaDoor
open Go.RowKit
set_option linter.unusedVariables false

theorem tPow23 : (Tryd.prog.globals[2]?).map (·.type) = some 196 := by kernel_rfl
theorem cPow23 : Tryd.prog.cellsOf 196 = 20 := by kernel_rfl
theorem cU23 : Tryd.prog.cellsOf 178 = 1 := by kernel_rfl
theorem varsP_of {W : World} {rest : List (String × DataW Unit)} (h : laidMet Tryd.prog (("internal/strconv.uint64pow10", Rows.laid_internal_strconv_uint64pow10) :: rest) W) : VarsP W := by
  have hpow := Lib.tabIs_of_head (k := .u64) (zs := Lib.pow10Tab) gPow23 tPow23 Tryd.underlying196 Tryd.underlying178 cU23 cPow23 h
  refine ⟨hpow, ?_⟩
  unfold Lib.TabIs World.var? at hpow
  simp only [gPow23, Option.bind_some] at hpow
  rcases Nat.lt_or_ge 2 W.heap.size with q | q
  · exact q
  · rw [Array.getElem?_eq_none q] at hpow; cases hpow
/-- two other variables stand ahead of the table, one behind it -/
theorem vars23_of_laid {W : World} {a b c : String × DataW Unit} {rest : List (String × DataW Unit)} (h : laidMet Tryd.prog (a :: b :: ("internal/strconv.uint64pow10", Rows.laid_internal_strconv_uint64pow10) :: c :: ("strconv.ErrSyntax", Rows.laid_strconv_ErrSyntax) :: rest) W) (hsh : W.ShapedOpen Tryd.prog) : Vars21 W ∧ VarsP W :=
  ⟨vars21_of h.tail.tail.tail.tail hsh, varsP_of h.tail.tail⟩
end Go.Proofs.YtlideagcmhlkeaaDoor
