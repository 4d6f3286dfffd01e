/- Texts of one proof, one behind the other: Has30; Plain21k; Plain17; Fmt21h; Plain21m; Plain23; Era23; Mad17a; Mad17b. -/
import Derived.Test.YtlideagcmhlkeaaDoorT5
import Derived.Deep.CutBlock
import Derived.BigRegion
import Derived.IntWalk
import Derived.Lib.ItoaNum
import Derived.Lib.LaidTab
import Derived.Lib.AppendIntMem
import Derived.Deep.DeepCutAuto
import Derived.Deep.RegionHeld3
import Derived.OpenShut
import Derived.Deep.RegionWith
import Derived.Deep.RegionLaw
import Derived.BigQuiet

/- The walks of has and plain (chapter 30). -/
namespace Go.Proofs.YtlideagcmhlkeaaDoor
open Go.RowKit Go.Lib
set_option linter.unusedVariables false
set_option linter.unusedSimpArgs false

/-- where the walk of plain stands: the box holds the copy, whose zones are Y -/
structure Rp (w W : World) (s c : SV) (F : EV → ByteArray × Int) (base : Nat) (Y : List ZV) (i k : Nat) : Prop where
  res : Blk W (w.heap.size + 1) 32 #[.slice none 0 0, .slice none 0 0, .slice none 0 0, .slice none 0 0]
  box : Blk W w.heap.size 32 #[.slice c.rA c.rules.length c.rc, .slice c.zA c.zones.length c.zc, .slice c.kA c.links.length c.kc, .slice c.hA c.shifts.length c.hc]
  cp : CopyOf W base { c with zones := Y } { c with zones := Y }
  par : part30 (fmtE F) s.zones Y i k
  bel : Below w.heap.size w W
  le : w.heap.size + 2 ≤ base
theorem Rp.at_ {w W : World} {s c : SV} {F : EV → ByteArray × Int} {base : Nat} {Y : List ZV} {i k : Nat} {z : ZV} (h : Rp w W s c F base Y i k) (hz : s.zones[i]? = some z) :
    ∃ (y : ZV) (zg : Nat), Y[i]? = some y ∧ c.zA = some ⟨zg, 0, none⟩ ∧ W.cell? ⟨zg, i * 2 + 1, none⟩ = some (.slice y.A z.eras.length y.c) ∧ y.eras.length = z.eras.length := by
  have hyl := (List.getElem?_eq_some_iff.1 hz).1
  obtain ⟨y, hy⟩ : ∃ y, Y[i]? = some y := ⟨_, List.getElem?_eq_getElem (by rw [h.par.1]; exact hyl)⟩
  obtain ⟨zg, hzA, _, _⟩ := h.cp.zones.1.addr (by show 0 < Y.length; rw [h.par.1]; omega)
  have hzr : RowOf W base 39 2 ZV.cells c.zA c.zc Y := h.cp.zones.1
  rw [show c.zA = some ⟨zg, 0, none⟩ from hzA] at hzr
  have q1 := hzr.cellAt len_zone hy 1 _ rfl
  have hq := (h.par.2 i z y hz hy).2.1
  rw [hq] at q1
  exact ⟨y, zg, hy, hzA, q1, hq⟩
theorem Rp.set_ {w W : World} {s c : SV} {F : EV → ByteArray × Int} {base : Nat} {Y : List ZV} {i k : Nat} {z y : ZV} {e : EV} {yg : Nat} (h : Rp w W s c F base Y i k) (hz : s.zones[i]? = some z) (he : z.eras[k]? = some e) (hy : Y[i]? = some y) (hA : y.A = some ⟨yg, 0, none⟩) :
    Rp w (W.setCell ⟨yg, k * 13 + 4, none⟩ (.string (F e).1)) s c F base (Y.set i { y with eras := y.eras.set k (fmtE F e) }) i (k + 1) := by
  have her := h.cp.zones.2.eras i y hy
  rw [hA] at her
  have hO : (Value.slice (some ⟨yg, 0, none⟩) y.eras.length y.c).ownBlock = some yg := rfl
  obtain ⟨y', hy', hye⟩ := h.par.at_ hz he
  rw [hy] at hy'
  injection hy' with hy'
  subst hy'
  have hge := (World.ownsRow.lt her yg rfl).1
  have hl := h.le
  refine ⟨blk_set_other h.res her hO (by decide) _, blk_set_other h.box her hO (by decide) _, ?_, h.par.step hz hy he, h.bel.setCell (by show w.heap.size ≤ yg; omega) _, h.le⟩
  exact h.cp.setCell (t := { c with zones := Y }) hy hA hye (.string (F e).1) (by decide) rfl
end Go.Proofs.YtlideagcmhlkeaaDoor

/- Plain mathematics for FormatKinds (chapter 21): what strings of some words are; no program in sight. -/
namespace Go.Proofs.YtlideagcmhlkeaaDoor.P21
set_option linter.unusedVariables false

/-- a word: three to six letters -/
def Wd (l : List UInt8) : Prop := 3 ≤ l.length ∧ l.length ≤ 6 ∧ ∀ c ∈ l, isL c = true
theorem Wd.abbr {l : List UInt8} (h : Wd l) : abbr l = true := abbr_of h.1 h.2.1 h.2.2
theorem Wd.ne {l : List UInt8} (h : Wd l) {d : UInt8} (hd : isL d = false) : ∀ c ∈ l, c ≠ d := fun c hc => isL_ne (h.2.2 c hc) hd
theorem Wd.num {l : List UInt8} (h : Wd l) : num l = false := abbr_num h.abbr
theorem slash_xy {x y : List UInt8} (h : Wd x) : slash (x ++ 47 :: y) = (x, y, true) := slash_at (h.ne (by decide))
theorem two_kind {x y : List UInt8} (h : Wd x) (hy : Wd y) : kind (x ++ 47 :: y) = 2 := kind2 (slash_xy h) h.abbr hy.abbr
end Go.Proofs.YtlideagcmhlkeaaDoor.P21

/- The rules that a draft of chapter 17 makes, as a function of its bytes; no program in sight. -/
namespace Go.Proofs.YtlideagcmhlkeaaDoor
set_option linter.unusedVariables false

namespace P17
/-- a number of the draft, below m -/
def at_ (D : List Int) (i m : Nat) : Nat := if D.length = 0 then 0 else ((D[i % D.length]?).getD 0).toNat % m
theorem at_lt (D : List Int) (i : Nat) {m : Nat} (h : 0 < m) : at_ D i m < m := by
  unfold at_
  split
  · exact h
  · exact Nat.mod_lt _ h
def day (D : List Int) (i : Nat) : Int × Int × Int :=
  if at_ D (i + 2) 3 = 0 then (2, (at_ D i 7 : Int), 0) else if at_ D (i + 2) 3 = 1 then (3, (at_ D i 7 : Int), 1 + 7 * (at_ D (i + 1) 4 : Int)) else (1, 0, 1 + (at_ D (i + 1) 28 : Int))
def sLet (n : Nat) : ByteArray := if n = 0 then ⟨#[83]⟩ else if n = 1 then ⟨#[68]⟩ else ⟨#[68, 84]⟩
def bLet (n : Nat) : ByteArray := if n = 0 then ⟨#[]⟩ else ⟨#[83]⟩
def pairA (D : List Int) (i : Nat) (from_ to_ sv : Int) : RV :=
  ⟨⟨#[]⟩, from_, to_, 2 + (at_ D i 3 : Int), (day D (i + 3)).1, (day D (i + 3)).2.1, (day D (i + 3)).2.2, (at_ D (i + 6) 49 : Int) * 1800, (at_ D (i + 7) 3 : Int), if at_ D (i + 2) 4 = 0 then 0 else sv, sLet (at_ D (i + 8) 3)⟩
def pairB (D : List Int) (i : Nat) (from_ to_ sv : Int) : RV :=
  ⟨⟨#[]⟩, from_, to_, 8 + (at_ D (i + 1) 3 : Int), (day D (i + 9)).1, (day D (i + 9)).2.1, (day D (i + 9)).2.2, (at_ D (i + 12) 49 : Int) * 1800, (at_ D (i + 13) 3 : Int), if at_ D (i + 2) 4 = 0 then sv else 0, bLet (at_ D (i + 14) 2)⟩
def pair (D : List Int) (i : Nat) (from_ to_ sv : Int) : List RV := [pairA D i from_ to_ sv, pairB D i from_ to_ sv]
def svOf (n : Nat) : Int := if n = 0 then 3600 else if n = 1 then 3600 else if n = 2 then 1800 else if n = 3 then 7200 else -3600
def sv (D : List Int) : Int := svOf (at_ D 0 5)
def from0 (D : List Int) : Int := 1900 + (at_ D 1 80 : Int)
def oneR (D : List Int) : RV := ⟨⟨#[]⟩, from0 D, from0 D, 6, 1, 0, 1 + (at_ D 3 28 : Int), (at_ D 4 49 : Int) * 1800, (at_ D 5 3 : Int), 0, ⟨#[83]⟩⟩
def part1 (D : List Int) : List RV := if at_ D 2 3 = 0 then [oneR D] else []
def from1 (D : List Int) : Int := if at_ D 2 3 = 0 then from0 D + 1 else from0 D
def to1 (D : List Int) : Int := from1 D + (at_ D 6 12 : Int)
def part2 (D : List Int) : List RV := if at_ D 5 2 = 0 then pair D 7 (from1 D) (to1 D) (sv D) else []
def from2 (D : List Int) : Int := if at_ D 5 2 = 0 then to1 D + 1 + (at_ D 8 5 : Int) else from1 D
def to2 (D : List Int) : Int := if at_ D 10 3 = 0 then from2 D + (at_ D 9 6 : Int) else 1048576
def raw (D : List Int) : List RV := part1 D ++ part2 D ++ pair D 11 (from2 D) (to2 D) (sv D)
def named (nm : ByteArray) (r : RV) : RV := { r with name := nm }
/-- the rules of a set with a name -/
def made (D : List Int) (nm : ByteArray) : List RV := (raw D).map (named nm)
theorem sv_cases (D : List Int) : sv D = 3600 ∨ sv D = 1800 ∨ sv D = 7200 ∨ sv D = -3600 := by
  unfold sv svOf
  split
  · exact .inl rfl
  · split
    · exact .inl rfl
    · split
      · exact .inr (.inl rfl)
      · split
        · exact .inr (.inr (.inl rfl))
        · exact .inr (.inr (.inr rfl))
theorem sv_ne (D : List Int) : sv D ≠ 0 := by have := sv_cases D; omega
def isLet (b : ByteArray) : Prop := b = ⟨#[]⟩ ∨ b = ⟨#[83]⟩ ∨ b = ⟨#[68]⟩ ∨ b = ⟨#[68, 84]⟩
theorem sLet_is (n : Nat) : isLet (sLet n) := by
  unfold sLet isLet
  split
  · exact .inr (.inl rfl)
  · split
    · exact .inr (.inr (.inl rfl))
    · exact .inr (.inr (.inr rfl))
theorem bLet_is (n : Nat) : isLet (bLet n) := by
  unfold bLet isLet
  split
  · exact .inl rfl
  · exact .inr (.inl rfl)
/-- what the laws want of a set -/
structure Good (D : List Int) (nm : ByteArray) (L : List RV) : Prop where
  two : 2 ≤ L.length
  five : L.length ≤ 5
  names : ∀ r ∈ L, r.name = nm
  saves : ∀ r ∈ L, r.save = 0 ∨ r.save = sv D
  has : ∃ r ∈ L, r.save = sv D
  letters : ∀ r ∈ L, isLet r.letter
theorem pair_good (D : List Int) (i : Nat) (f t s : Int) : (∀ r ∈ pair D i f t s, (r.save = 0 ∨ r.save = s) ∧ isLet r.letter) ∧ ∃ r ∈ pair D i f t s, r.save = s := by
  refine ⟨fun r hr => ?_, ?_⟩
  · unfold pair at hr
    simp only [List.mem_cons, List.not_mem_nil, or_false] at hr
    rcases hr with rfl | rfl
    · refine ⟨?_, sLet_is _⟩
      show (if _ then (0 : Int) else s) = 0 ∨ (if _ then (0 : Int) else s) = s
      split
      · exact .inl rfl
      · exact .inr rfl
    · refine ⟨?_, bLet_is _⟩
      show (if _ then s else (0 : Int)) = 0 ∨ (if _ then s else (0 : Int)) = s
      split
      · exact .inr rfl
      · exact .inl rfl
  · by_cases h : at_ D (i + 2) 4 = 0
    · exact ⟨pairB D i f t s, by simp [pair], by unfold pairB; simp only; rw [if_pos h]⟩
    · exact ⟨pairA D i f t s, by simp [pair], by unfold pairA; simp only; rw [if_neg h]⟩
theorem raw_good (D : List Int) : 2 ≤ (raw D).length ∧ (raw D).length ≤ 5 ∧ (∀ r ∈ raw D, (r.save = 0 ∨ r.save = sv D) ∧ isLet r.letter) ∧ ∃ r ∈ raw D, r.save = sv D := by
  have p1 := pair_good D 11 (from2 D) (to2 D) (sv D)
  have p2 := pair_good D 7 (from1 D) (to1 D) (sv D)
  have l1 : (part1 D).length ≤ 1 := by unfold part1; split <;> simp
  have l2 : (part2 D).length ≤ 2 := by unfold part2 pair; split <;> simp
  have e : (raw D).length = (part1 D).length + (part2 D).length + 2 := by unfold raw; rw [List.length_append, List.length_append]; rfl
  refine ⟨by omega, by omega, fun r hr => ?_, ?_⟩
  · unfold raw at hr
    rw [List.mem_append, List.mem_append] at hr
    rcases hr with (hr | hr) | hr
    · unfold part1 at hr
      split at hr
      · rw [List.mem_singleton] at hr; subst hr; exact ⟨.inl rfl, .inr (.inl rfl)⟩
      · cases hr
    · unfold part2 at hr
      split at hr
      · exact p2.1 r hr
      · cases hr
    · exact p1.1 r hr
  · obtain ⟨r, hr, h⟩ := p1.2
    exact ⟨r, by unfold raw; exact List.mem_append_right _ hr, h⟩
theorem made_good (D : List Int) (nm : ByteArray) : Good D nm (made D nm) := by
  obtain ⟨h1, h2, h3, r, hr, h4⟩ := raw_good D
  have key : ∀ r ∈ made D nm, ∃ q ∈ raw D, r = named nm q := fun r hr => by
    unfold made at hr
    obtain ⟨q, hq, h⟩ := List.mem_map.1 hr
    exact ⟨q, hq, h.symm⟩
  refine ⟨by unfold made; rw [List.length_map]; exact h1, by unfold made; rw [List.length_map]; exact h2, fun r hr => ?_, fun r hr => ?_, ⟨named nm r, List.mem_map.2 ⟨r, hr, rfl⟩, h4⟩, fun r hr => ?_⟩
  · obtain ⟨q, hq, rfl⟩ := key r hr; rfl
  · obtain ⟨q, hq, rfl⟩ := key r hr; exact (h3 q hq).1
  · obtain ⟨q, hq, rfl⟩ := key r hr; exact (h3 q hq).2
end P17
end Go.Proofs.YtlideagcmhlkeaaDoor

/- The walk of format.Check (chapter 21). -/
namespace Go.Proofs.YtlideagcmhlkeaaDoor
open Go.RowKit Go.Lib
set_option linter.unusedVariables false

end Go.Proofs.YtlideagcmhlkeaaDoor

/- The plain law of FORMATs of sets that are made by numbers (chapter 21): %z, what stands for it, letters; no program in sight. -/
namespace Go.Proofs.YtlideagcmhlkeaaDoor
set_option linter.unusedVariables false

namespace P21
theorem ofrom_y {y : Int} (hy : y ≠ 0) : ∀ l : List Int, (∀ x ∈ l, x = 0 ∨ x = y) → P20.otherFrom y l = (y, true)
  | [], _ => by rw [P20.otherFrom, decide_eq_true hy]
  | a :: l, h => by
    have ih := ofrom_y hy l fun x hx => h x (List.mem_cons_of_mem _ hx)
    rw [P20.otherFrom]
    rcases h a (List.mem_cons_self ..) with rfl | rfl
    · rw [if_pos rfl, ih]
    · rw [if_neg hy, if_neg (by simp), ih]
theorem other_good {y : Int} (hy : y ≠ 0) : ∀ l : List Int, (∀ x ∈ l, x = 0 ∨ x = y) → y ∈ l → P20.other l = (y, true)
  | [], _, hm => by cases hm
  | a :: l, h, hm => by
    have hl : ∀ x ∈ l, x = 0 ∨ x = y := fun x hx => h x (List.mem_cons_of_mem _ hx)
    unfold P20.other
    rw [P20.otherFrom]
    by_cases h0 : a = 0
    · rw [if_pos h0]
      refine other_good hy l hl ?_
      rcases List.mem_cons.1 hm with h1 | h1
      · exact absurd (h1.trans h0) hy
      · exact h1
    · rw [if_neg h0, if_neg (by simp)]
      rcases h a (List.mem_cons_self ..) with h1 | rfl
      · exact absurd h1 h0
      · exact ofrom_y hy l hl
/-- what stands for %z -/
def xt (off y : Int) : List UInt8 := P20.text off ++ 47 :: P20.text (off + y)
/-- offset and save within a day, and with each other -/
structure Fits (off y : Int) : Prop where
  o0 : -86399 ≤ off
  o1 : off ≤ 86399
  s0 : -86399 ≤ off + y
  s1 : off + y ≤ 86399
section
variable {off y : Int} (h : Fits off y)
include h
theorem Fits.n1 : num (P20.text off) = true := num_of_text h.o0 h.o1
theorem Fits.n2 : num (P20.text (off + y)) = true := num_of_text h.s0 h.s1
theorem xt_slash : slash (xt off y) = (P20.text off, P20.text (off + y), true) := slash_at fun c hc q => by
  rw [q] at hc; have := num_mem h.n1 _ hc; revert this; decide
theorem xt_kind : kind (xt off y) = 5 := kind5s (xt_slash h) h.n1 h.n2
theorem xt_two : two (xt off y) = true := by unfold two; rw [xt_slash h, xt_kind h]; rfl
theorem xt_exp {l : List Int} (s : Int) (hl : P20.other l = (y, true)) : P20.expansion 2 off s l = (xt off y, 0) := by
  unfold P20.expansion
  rw [if_neg (by decide), if_neg (by decide), if_pos rfl, hl, if_pos rfl]
  unfold P20.both
  rw [if_neg (by rintro (q | q); exact P20.text_ne h.o0 h.o1 q; exact P20.text_ne h.s0 h.s1 q)]
  rfl
theorem xt_abbr (s : Int) (lt : List UInt8) : abbrv (xt off y) off s lt = (if s = 0 then P20.text off else P20.text (off + y), 0) := by
  unfold abbrv
  rw [if_pos (xt_two h), xt_slash h]
  by_cases h0 : s = 0 <;> simp [h0]
theorem z_abbr {s : Int} (hs : s = 0 ∨ s = y) (lt : List UInt8) : abbrv [37, 122] off s lt = (if s = 0 then P20.text off else P20.text (off + y), 0) := by
  have ht : two [37, 122] = false := by decide +kernel
  unfold abbrv
  rw [if_neg (by rw [ht]; decide), if_neg (by rw [kind_z]; decide), if_pos kind_z]
  by_cases h0 : s = 0
  · subst h0
    rw [if_pos rfl, Int.add_zero, out, decide_eq_true (P20.text_ne h.o0 h.o1)]; rfl
  · rw [hs.resolve_left h0, if_neg (by rw [← hs.resolve_left h0]; exact h0), out, decide_eq_true (P20.text_ne h.s0 h.s1)]; rfl
end
end P21
/-- the offset of an era by a number -/
def offOf (o : Int) : Int := (o.tmod 49 - 24) * 1800
theorem offOf_bd {o : Int} (h : 0 ≤ o) : -43200 ≤ offOf o ∧ offOf o ≤ 43200 := by
  unfold offOf
  rw [Int.tmod_eq_emod_of_nonneg h]
  omega
theorem P17.Good.other {D : List Int} {nm : ByteArray} {L : List RV} (h : P17.Good D nm L) : P20.other (svs L) = (P17.sv D, true) := by
  refine P21.other_good (P17.sv_ne D) _ (fun x hx => ?_) ?_
  · unfold svs at hx
    obtain ⟨r, hr, rfl⟩ := List.mem_map.1 hx
    exact h.saves r hr
  · obtain ⟨r, hr, e⟩ := h.has
    exact List.mem_map.2 ⟨r, hr, e⟩
theorem P17.Good.sv {D : List Int} {nm : ByteArray} {L : List RV} (h : P17.Good D nm L) : ∀ x ∈ svs L, x = 0 ∨ x = P17.sv D := fun x hx => by
  unfold svs at hx
  obtain ⟨r, hr, rfl⟩ := List.mem_map.1 hx
  exact h.saves r hr
theorem P17.Good.svOk {D : List Int} {nm : ByteArray} {L : List RV} (h : P17.Good D nm L) : SvOk L := fun y hy => by
  have := P17.sv_cases D
  rcases h.sv y hy with rfl | rfl <;> omega
end Go.Proofs.YtlideagcmhlkeaaDoor

/- Sources of layer 23, made of numbers: what Expand and Contract answer there (the plain law of chapter 30). No function of the program. -/
namespace Go.Proofs.YtlideagcmhlkeaaDoor
set_option linter.unusedVariables false

/-- the FORMATs of layer 23 -/
def isFmt23 (b : ByteArray) : Prop := b = ⟨#[76, 77, 84]⟩ ∨ b = ⟨#[71, 77, 84, 47, 66, 83, 84]⟩ ∨ b = ⟨#[69, 37, 115, 83, 84]⟩ ∨ b = ⟨#[37, 122]⟩ ∨ b = ⟨#[67, 69, 84, 47, 67, 69, 83, 84]⟩ ∨ b = ⟨#[87, 83, 84]⟩
/-- an era of layer 23, whose set has one save other than 0 -/
structure GoodE (R : List RV) (e : EV) : Prop where
  off : -42300 ≤ e.off ∧ e.off ≤ 42300
  kind : e.kind = 0 ∨ e.kind = 1 ∨ e.kind = 2
  fmt : isFmt23 e.fmt
  save : 0 ≤ e.save ∧ e.save ≤ 7200
  set : e.kind = 2 → ∃ y, (y = 3600 ∨ y = 1800 ∨ y = 7200 ∨ y = -3600) ∧ P20.other (svs (ofSet R e.set)) = (y, true)
/-- FORMATs of layer 23: %z, or one that is no number -/
theorem fmt23_kind {b : ByteArray} (h : isFmt23 b) : b = ⟨#[37, 122]⟩ ∨ (P21.kind (P4.bl b) ≠ 4 ∧ P21.kind (P4.bl b) ≠ 5 ∧ b ≠ ⟨#[37, 122]⟩) := by
  rcases h with rfl | rfl | rfl | rfl | rfl | rfl
  · exact .inr (by decide +kernel)
  · exact .inr (by decide +kernel)
  · exact .inr (by decide +kernel)
  · exact .inl rfl
  · exact .inr (by decide +kernel)
  · exact .inr (by decide +kernel)
theorem fmt23_size {b : ByteArray} (h : isFmt23 b) : b.size ≤ 8 := by
  rcases h with rfl | rfl | rfl | rfl | rfl | rfl <;> decide
theorem abbrv_num {o : Int} (h0 : -86399 ≤ o) (h1 : o ≤ 86399) (off s : Int) (lt : List UInt8) : P21.abbrv (P20.text o) off s lt = (P20.text o, 0) := by
  have hn := P21.num_of_text h0 h1
  have hk := P21.kind5 hn
  have ht : P21.two (P20.text o) = false := by
    have hs : (P21.slash (P20.text o)).2.2 = false := P21.slash_no fun c hc q => by
      rw [q] at hc; have := P21.num_mem hn _ hc; revert this; decide
    rw [P21.two_eq, hs]; rfl
  unfold P21.abbrv
  rw [if_neg (by rw [ht]; decide), if_neg (by rw [hk]; decide), if_neg (by rw [hk]; decide), if_neg (by rw [hk]; decide)]
theorem abbrv_z {o s : Int} (h0 : -86399 ≤ o + s) (h1 : o + s ≤ 86399) (lt : List UInt8) : P21.abbrv [37, 122] o s lt = (P20.text (o + s), 0) := by
  have ht : P21.two [37, 122] = false := by decide +kernel
  unfold P21.abbrv
  rw [if_neg (by rw [ht]; decide), if_neg (by rw [P21.kind_z]; decide), if_pos P21.kind_z, P21.out, decide_eq_true (P20.text_ne h0 h1)]
  rfl
/-- the saves that are asked of an era -/
def saves23 (R : List RV) (e : EV) : List Int := if e.kind = 2 then [0, (P20.other (svs (ofSet R e.set))).1] else if e.kind = 1 then [e.save] else [0]
theorem GoodE.num {R : List RV} {e : EV} (h : GoodE R e) : ∃ l : List UInt8, num30 R e = (str l, 0) ∧ P21.kind l = 5 ∧ ∀ s ∈ saves23 R e, ∀ lt, P21.abbrv [37, 122] e.off s lt = P21.abbrv l e.off s lt := by
  have h1 := h.off; have h2 := h.save
  rcases h.kind with k | k | k
  · refine ⟨P20.text e.off, ?_, P21.kind5 (P21.num_of_text (by omega) (by omega)), fun s hs lt => ?_⟩
    · unfold num30
      rw [k]
      have : P20.expansion 0 e.off e.save (svs (if (0 : Int) = 2 then ofSet R e.set else [])) = (P20.text e.off, 0) := by
        unfold P20.expansion P20.one
        rw [if_pos rfl, if_neg (P20.text_ne (by omega) (by omega))]
      rw [this]
    · unfold saves23 at hs
      rw [if_neg (by omega), if_neg (by omega)] at hs
      obtain rfl := List.mem_singleton.1 hs
      rw [abbrv_num (by omega) (by omega), abbrv_z (by omega) (by omega), Int.add_zero]
  · refine ⟨P20.text (e.off + e.save), ?_, P21.kind5 (P21.num_of_text (by omega) (by omega)), fun s hs lt => ?_⟩
    · unfold num30
      rw [k]
      have : P20.expansion 1 e.off e.save (svs (if (1 : Int) = 2 then ofSet R e.set else [])) = (P20.text (e.off + e.save), 0) := by
        unfold P20.expansion P20.one
        rw [if_neg (by decide), if_pos rfl, if_neg (P20.text_ne (by omega) (by omega))]
      rw [this]
    · unfold saves23 at hs
      rw [if_neg (by omega), if_pos k] at hs
      obtain rfl := List.mem_singleton.1 hs
      rw [abbrv_num (by omega) (by omega), abbrv_z (by omega) (by omega)]
  · obtain ⟨y, hy, ho⟩ := h.set k
    have hF : P21.Fits e.off y := ⟨by omega, by omega, by omega, by omega⟩
    refine ⟨P21.xt e.off y, ?_, P21.xt_kind hF, fun s hs lt => ?_⟩
    · unfold num30
      rw [k, if_pos rfl, P21.xt_exp hF e.save ho]
    · unfold saves23 at hs
      rw [if_pos k, ho] at hs
      have hs2 : s = 0 ∨ s = y := by simpa using hs
      rw [P21.z_abbr hF hs2, P21.xt_abbr hF]
/-- what Expand makes of an era of layer 23 -/
theorem GoodE.ex {R : List RV} {e : EV} (h : GoodE R e) : (exF R e).2 = 0 ∧ P21.kind (P4.bl (exF R e).1) ≠ 4 ∧ (e.fmt ≠ ⟨#[37, 122]⟩ → (exF R e).1 = e.fmt) ∧ (e.fmt = ⟨#[37, 122]⟩ → exF R e = num30 R e ∧ P21.kind (P4.bl (exF R e).1) = 5) := by
  obtain ⟨l, hn, hk, _⟩ := h.num
  rcases fmt23_kind h.fmt with hz | ⟨k4, k5, hz⟩
  · have he : exF R e = num30 R e := by unfold exF; rw [if_pos hz]
    refine ⟨by rw [he, hn], by rw [he, hn]; show P21.kind l ≠ 4; rw [hk]; decide, fun q => absurd hz q, fun _ => ⟨he, ?_⟩⟩
    rw [he, hn]
    exact hk
  · have he : exF R e = (e.fmt, 0) := by unfold exF; rw [if_neg hz]
    exact ⟨by rw [he], by rw [he]; exact k4, fun _ => by rw [he], fun q => absurd q hz⟩
end Go.Proofs.YtlideagcmhlkeaaDoor

/- An era of layer 23, made of numbers: FORMAT, end, and the era. -/
namespace Go.Proofs.YtlideagcmhlkeaaDoor
open Go.RowKit Go.Lib
set_option linter.unusedVariables false
set_option linter.unusedSimpArgs false

/-- an era by numbers -/
structure E23 where
  kind : Int
  set : Int
  fmt : Int
  years : Int
  day : Int
  base : Int
  off : Int
  at_ : Int
def E23.cells (d : E23) : List Value := [.int .u8 d.kind, .int .u8 d.set, .int .u8 d.fmt, .int .u8 d.years, .int .u8 d.day, .int .u8 d.base, .int .i8 d.off, .int .i8 d.at_]
structure E23.ok (d : E23) : Prop where
  k : 0 ≤ d.kind ∧ d.kind ≤ 255
  s : 0 ≤ d.set ∧ d.set ≤ 255
  f : 0 ≤ d.fmt ∧ d.fmt ≤ 255
  y : 0 ≤ d.years ∧ d.years ≤ 255
  dy : 0 ≤ d.day ∧ d.day ≤ 255
  b : 0 ≤ d.base ∧ d.base ≤ 255
  o : -128 ≤ d.off ∧ d.off ≤ 127
  a : -128 ≤ d.at_ ∧ d.at_ ≤ 127
/-- the name of a set -/
def rn (k : Nat) : ByteArray := str [82, UInt8.ofNat (48 + k)]
/-- an era that is right but for what its set says -/
structure GE23 (N : Nat) (e : EV) : Prop where
  off : -42300 ≤ e.off ∧ e.off ≤ 42300
  kind : e.kind = 0 ∨ e.kind = 1 ∨ e.kind = 2
  fmt : isFmt23 e.fmt
  save : 0 ≤ e.save ∧ e.save ≤ 7200
  set : e.kind = 2 → ∃ k, k < N ∧ e.set = rn k
/-- what a step of the region keeps: boxes of eras stay boxes of eras -/
def GE (W W' : World) : Prop := ∀ g, (∃ v0 v1 v2 v3 v4 v5 v6 v7 v8 v9 v10 v11 v12, Blk W g 47 #[v0, v1, v2, v3, v4, v5, v6, v7, v8, v9, v10, v11, v12]) → ∃ v0 v1 v2 v3 v4 v5 v6 v7 v8 v9 v10 v11 v12, Blk W' g 47 #[v0, v1, v2, v3, v4, v5, v6, v7, v8, v9, v10, v11, v12]
theorem GE.refl (W : World) : GE W W := fun _ h => h
theorem GE.below {W W' : World} (h : Below W.heap.size W W') : GE W W' := fun g ⟨v0, v1, v2, v3, v4, v5, v6, v7, v8, v9, v10, v11, v12, hb⟩ => ⟨v0, v1, v2, v3, v4, v5, v6, v7, v8, v9, v10, v11, v12, hb.below h hb.lt⟩
theorem GE.alloc (W : World) (ob : Obj) : GE W (W.alloc ob) := GE.below ((Below.refl _ W).alloc (Nat.le_refl _) ob)
theorem GE.trans {A B C : World} (h : GE A B) (k : GE B C) : GE A C := fun g hb => k g (h g hb)
theorem GE.set_ {W : World} {g : Nat} {v0 v1 v2 v3 v4 v5 v6 v7 v8 v9 v10 v11 v12 : Value} (hb : Blk W g 47 #[v0, v1, v2, v3, v4, v5, v6, v7, v8, v9, v10, v11, v12]) (z : Nat) (u : Value) : GE W (W.setCell ⟨g, z, none⟩ u) := by
  intro g' ⟨v0', v1', v2', v3', v4', v5', v6', v7', v8', v9', v10', v11', v12', hb'⟩
  by_cases q : g' = g
  · subst q
    have := hb.set_ z u
    match z with
    | 0 | 1 | 2 | 3 | 4 | 5 | 6 | 7 | 8 | 9 | 10 | 11 | 12 => exact ⟨_, _, _, _, _, _, _, _, _, _, _, _, _, this⟩
    | z + 13 =>
      rw [Array.setIfInBounds, dif_neg (by simp)] at this
      exact ⟨_, _, _, _, _, _, _, _, _, _, _, _, _, this⟩
  · exact ⟨v0', v1', v2', v3', v4', v5', v6', v7', v8', v9', v10', v11', v12', hb'.far q u⟩
theorem gPow23 : Tryd.prog.globalNamed "internal/strconv.uint64pow10" = some 2 := by kernel_rfl
theorem var_below23 {P : Program} {B g : Nat} {W W' : World} {n : String} {cs : Array Value} (h : Below B W W') (hg : P.globalNamed n = some g) (hgB : g < B) (hv : W.var? P n = some cs) : W'.var? P n = some cs := by
  unfold World.var? at hv ⊢
  simp only [hg, Option.bind_some] at hv ⊢
  rw [h.block g hgB]
  exact hv
/-- the table of powers of ten -/
structure VarsP (w : World) : Prop where
  pow : Lib.TabIs Tryd.prog w "internal/strconv.uint64pow10" .u64 Lib.pow10Tab
  big : 2 < w.heap.size
theorem VarsP.below {w w' : World} (h : VarsP w) (hb : Below w.heap.size w w') : VarsP w' := ⟨var_below23 hb gPow23 h.big h.pow, Nat.lt_of_lt_of_le h.big hb.size⟩
end Go.Proofs.YtlideagcmhlkeaaDoor

/- The walks of the numbers and times of a draft (chapter 17). -/
namespace Go.Proofs.YtlideagcmhlkeaaDoor
open Go.RowKit Go.Lib
set_option linter.unusedVariables false

/-- the bytes of a draft -/
structure Dr (w : World) (A : Option Addr) (D : List Int) : Prop where
  len : D.length ≤ maxLen
  cells : CellsIn 1 u8Cell w A D
  bytes : ∀ n ∈ D, 0 ≤ n ∧ n ≤ 255
theorem Dr.below {w w' : World} {A : Option Addr} {D : List Int} (h : Dr w A D) (hb : Below w.heap.size w w') : Dr w' A D := ⟨h.len, h.cells.below hb, h.bytes⟩
theorem Dr.alloc {w : World} {A : Option Addr} {D : List Int} (h : Dr w A D) (ob : Obj) : Dr (w.alloc ob) A D := h.below ((Below.refl _ _).alloc (Nat.le_refl _) ob)
theorem at_zero {D : List Int} (h : D.length = 0) (i m : Nat) : P17.at_ D i m = 0 := by unfold P17.at_; rw [if_pos h]
theorem at_pos {D : List Int} {n : Int} {i : Nat} (h : D[i % D.length]? = some n) (m : Nat) : P17.at_ D i m = n.toNat % m := by
  have h0 : 0 < D.length := Nat.lt_of_le_of_lt (Nat.zero_le _) (List.getElem?_eq_some_iff.mp h).1
  unfold P17.at_; rw [if_neg (by omega), h]; rfl
set_option maxRecDepth 100000 in
set_option maxHeartbeats 8000000 in
theorem at17_any (A : Option Addr) (c : Nat) (D : List Int) (i m : Nat) (w : World) (hm : 1 ≤ m ∧ m ≤ 1000) (hi : i ≤ 1000) (hD : Dr w A D) :
    Calls Tryd.prog 78 #[.slice A D.length c, .int .i64 (i : Int), .int .i64 (m : Int)] w fun e w' => e = .returned (.int .i64 (P17.at_ D i m : Int)) ∧ w' = w := by
  obtain ⟨hl, hF, hG⟩ := hD
  unfold maxLen at hl
  have hli : (D.length : Int) ≤ 9223372036854775807 := by omega
  obtain ⟨m1, m2⟩ := hm
  have hm0 : ¬ ((m : Int) = 0) := by omega
  have hi2 : (i : Int) ≤ 1000 := by omega
  rcases Nat.eq_zero_or_pos D.length with h0 | h0
  · rw [at_zero h0, h0]
    clear hF hG hl hli h0
    go_enter Tryd.func78, Tryd.ntmps78
    go_wp2_with fail
    go_ret
    exact ⟨rfl, rfl⟩
  · have hjl : i % D.length < D.length := Nat.mod_lt _ h0
    obtain ⟨n, hn⟩ : ∃ n, D[i % D.length]? = some n := ⟨_, List.getElem?_eq_getElem hjl⟩
    rw [at_pos hn]
    obtain ⟨b, o, rfl, hbl, hcc⟩ := hF (i % D.length) n hn
    have c0 : w.cell? ⟨b, o + i % D.length, none⟩ = some (.int .u8 n) := by
      have q := hcc 0 _ rfl
      rwa [Nat.mul_one, Nat.add_zero] at q
    obtain ⟨n0, n255⟩ := hG n (List.mem_of_getElem? hn)
    have eR : n.tmod (m : Int) = ((n.toNat % m : Nat) : Int) := by
      rw [Int.tmod_eq_emod_of_nonneg n0]
      have : n = (n.toNat : Int) := by omega
      rw [this]; exact (Int.natCast_emod _ _).symm
    have hrm : ((n.toNat % m : Nat) : Int) ≤ 255 := by
      have := Nat.mod_le n.toNat m
      omega
    have eJ : (i : Int).tmod (D.length : Int) = ((i % D.length : Nat) : Int) := by rw [Int.tmod_eq_emod_of_nonneg (by omega)]; exact (Int.natCast_emod i D.length).symm
    have hj2 : ((i % D.length : Nat) : Int) < (D.length : Int) := by omega
    have b0 : ((D.length : Int) == 0) = false := by rw [beq_eq_false_iff_ne]; omega
    have d0 : ¬ ((D.length : Int) = 0) := by omega
    clear hcc hn hG hF hl
    generalize n.toNat % m = r at *
    generalize i % D.length = j at *
    generalize D.length = N at *
    go_enter Tryd.func78, Tryd.ntmps78
    go_wp2_with fail
    go_ret
    exact ⟨rfl, rfl⟩
/-- the same, with the place as an Int -/
theorem at17_at (A : Option Addr) (c : Nat) (D : List Int) (i m : Nat) (J : Int) (hJ : J = i) (w : World) (hm : 1 ≤ m ∧ m ≤ 1000) (hi : i ≤ 1000) (hD : Dr w A D) :
    Calls Tryd.prog 78 #[.slice A D.length c, .int .i64 J, .int .i64 (m : Int)] w fun e w' => e = .returned (.int .i64 (P17.at_ D i m : Int)) ∧ w' = w := by
  rw [hJ]; exact at17_any A c D i m w hm hi hD
end Go.Proofs.YtlideagcmhlkeaaDoor

/- The walks of the days and times of a draft (chapter 17). -/
namespace Go.Proofs.YtlideagcmhlkeaaDoor
open Go.RowKit Go.Lib
set_option linter.unusedVariables false

set_option maxRecDepth 100000 in
set_option maxHeartbeats 8000000 in
theorem clock17_any (A : Option Addr) (c : Nat) (D : List Int) (i : Nat) (J : Int) (hJ : J = i) (w : World) (hi : i ≤ 900) (hD : Dr w A D) :
    Calls Tryd.prog 79 #[.slice A D.length c, .int .i64 J] w fun e w' => e = .returned (.agg #[.int .i64 ((P17.at_ D i 49 : Int) * 1800), .int .i64 (P17.at_ D (i + 1) 3 : Int)]) ∧ Below w.heap.size w w' := by
  have c1 : Hid (∀ W, Dr W A D → Calls Tryd.prog 78 #[.slice A D.length c, .int .i64 J, .int .i64 49] W fun e w' => e = .returned (.int .i64 (P17.at_ D i 49 : Int)) ∧ w' = W) := fun W h => at17_at A c D i 49 J hJ W (by decide) (by omega) h
  have c2 : Hid (∀ W, Dr W A D → Calls Tryd.prog 78 #[.slice A D.length c, .int .i64 (J + 1), .int .i64 3] W fun e w' => e = .returned (.int .i64 (P17.at_ D (i + 1) 3 : Int)) ∧ w' = W) := fun W h => at17_at A c D (i + 1) 3 (J + 1) (by omega) W (by decide) (by omega) h
  have hJ0 : 0 ≤ J := by omega
  have hJ1 : J ≤ 900 := by omega
  have l1 := P17.at_lt D i (show 0 < 49 by decide)
  have l2 := P17.at_lt D (i + 1) (show 0 < 3 by decide)
  have hX0 : (0 : Int) ≤ (P17.at_ D i 49 : Int) := by omega
  have hX1 : (P17.at_ D i 49 : Int) ≤ 49 := by omega
  generalize (P17.at_ D i 49 : Int) = X at *
  generalize (P17.at_ D (i + 1) 3 : Int) = Y at *
  clear hJ hi l1 l2
  have hD0 := hD.alloc (.cells #[.int .i64 0, .int .i64 0] 43)
  have hB := Blk.new w 43 #[.int .i64 0, .int .i64 0]
  have hb0 := (Below.refl w.heap.size w).alloc (Nat.le_refl _) (.cells #[.int .i64 0, .int .i64 0] 43)
  generalize D.length = N at c1 c2 ⊢
  go_enter Tryd.func79, Tryd.ntmps79
  go_wp2_with fail
  refine (c1.out _ hD0).mono ?_
  rintro e w1 ⟨rfl, rfl⟩
  go_wp2_with fail
  refine (c2.out _ hD0).mono ?_
  rintro e w2 ⟨rfl, rfl⟩
  go_wp2_with fail
  exact bodyPost_ret (v := .agg #[.int .i64 (X * 1800), .int .i64 Y]) (by simp [results, Tryd.results79, go_sem]) rfl ⟨rfl, (Below.refl w.heap.size w).alloc (Nat.le_refl _) _⟩
theorem pass_g {W W' : World} {n : Nat} {t : TypeId} {cs : Array Value} {p : Nat → Prop} (hg : ∀ g t cs, g ≠ n → Blk W g t cs → Blk W' g t cs) (h : ∃ g, p g ∧ g ≠ n ∧ Blk W g t cs) : ∃ g, p g ∧ g ≠ n ∧ Blk W' g t cs := by
  obtain ⟨g, h1, h2, h3⟩ := h
  exact ⟨g, h1, h2, hg g t cs h2 h3⟩
set_option maxRecDepth 100000 in
set_option maxHeartbeats 8000000 in
theorem day17_any (A : Option Addr) (c : Nat) (D : List Int) (B i : Nat) (J : Int) (hJ : J = i) (w : World) (hi : i ≤ 900) (hD : Dr w A D) (hB : B < w.heap.size) (hc : w.cell? ⟨B, 0, none⟩ = some (.slice A D.length c)) :
    Calls Tryd.prog 104 #[.int .i64 J, .pointer (some ⟨B, 0, none⟩)] w fun e w' => e = .returned (.agg #[.int .i64 (P17.day D i).1, .int .i64 (P17.day D i).2.1, .int .i64 (P17.day D i).2.2]) ∧ Below w.heap.size w w' := by
  have c1 : Hid (∀ W, Below w.heap.size w W → Calls Tryd.prog 78 #[.slice A D.length c, .int .i64 J, .int .i64 7] W fun e w' => e = .returned (.int .i64 (P17.at_ D i 7 : Int)) ∧ w' = W) := fun W h => at17_at A c D i 7 J hJ W (by decide) (by omega) (hD.below h)
  have c2 : Hid (∀ W, Below w.heap.size w W → Calls Tryd.prog 78 #[.slice A D.length c, .int .i64 (J + 1), .int .i64 4] W fun e w' => e = .returned (.int .i64 (P17.at_ D (i + 1) 4 : Int)) ∧ w' = W) := fun W h => at17_at A c D (i + 1) 4 (J + 1) (by omega) W (by decide) (by omega) (hD.below h)
  have c3 : Hid (∀ W, Below w.heap.size w W → Calls Tryd.prog 78 #[.slice A D.length c, .int .i64 (J + 1), .int .i64 28] W fun e w' => e = .returned (.int .i64 (P17.at_ D (i + 1) 28 : Int)) ∧ w' = W) := fun W h => at17_at A c D (i + 1) 28 (J + 1) (by omega) W (by decide) (by omega) (hD.below h)
  have c4 : Hid (∀ W, Below w.heap.size w W → Calls Tryd.prog 78 #[.slice A D.length c, .int .i64 (J + 2), .int .i64 3] W fun e w' => e = .returned (.int .i64 (P17.at_ D (i + 2) 3 : Int)) ∧ w' = W) := fun W h => at17_at A c D (i + 2) 3 (J + 2) (by omega) W (by decide) (by omega) (hD.below h)
  have hJ0 : 0 ≤ J := by omega
  have hJ1 : J ≤ 900 := by omega
  have l1 := P17.at_lt D i (show 0 < 7 by decide)
  have l2 := P17.at_lt D (i + 1) (show 0 < 4 by decide)
  have l3 := P17.at_lt D (i + 1) (show 0 < 28 by decide)
  have l4 := P17.at_lt D (i + 2) (show 0 < 3 by decide)
  have hX0 : (0 : Int) ≤ (P17.at_ D (i + 1) 4 : Int) := by omega
  have hX1 : (P17.at_ D (i + 1) 4 : Int) ≤ 4 := by omega
  have hY0 : (0 : Int) ≤ (P17.at_ D (i + 1) 28 : Int) := by omega
  have hY1 : (P17.at_ D (i + 1) 28 : Int) ≤ 28 := by omega
  have hK : (P17.at_ D (i + 2) 3 : Int) = 0 ∨ (P17.at_ D (i + 2) 3 : Int) = 1 ∨ (P17.at_ D (i + 2) 3 : Int) = 2 := by omega
  have hdy : P17.day D i = if (P17.at_ D (i + 2) 3 : Int) = 0 then (2, (P17.at_ D i 7 : Int), 0) else if (P17.at_ D (i + 2) 3 : Int) = 1 then (3, (P17.at_ D i 7 : Int), 1 + 7 * (P17.at_ D (i + 1) 4 : Int)) else (1, 0, 1 + (P17.at_ D (i + 1) 28 : Int)) := by
    unfold P17.day
    rcases hK with h | h | h
    · rw [if_pos (by omega), if_pos h]
    · rw [if_neg (by omega), if_pos (by omega), if_neg (by omega), if_pos h]
    · rw [if_neg (by omega), if_neg (by omega), if_neg (by omega), if_neg (by omega)]
  rw [hdy]
  clear hdy
  have wj1 : IntKind.i64.wrap (J + 1) = J + 1 := IntWalk.i64_in _ (by omega)
  have wj3 : IntKind.i64.wrap (7 * (P17.at_ D (i + 1) 4 : Int)) = 7 * (P17.at_ D (i + 1) 4 : Int) := IntWalk.i64_in _ (by omega)
  have wj4 : IntKind.i64.wrap (1 + 7 * (P17.at_ D (i + 1) 4 : Int)) = 1 + 7 * (P17.at_ D (i + 1) 4 : Int) := IntWalk.i64_in _ (by omega)
  have wj5 : IntKind.i64.wrap (1 + (P17.at_ D (i + 1) 28 : Int)) = 1 + (P17.at_ D (i + 1) 28 : Int) := IntWalk.i64_in _ (by omega)
  have wj2 : IntKind.i64.wrap (J + 2) = J + 2 := IntWalk.i64_in _ (by omega)
  have hc0 : (w.alloc (.cells #[.int .i64 0, .int .i64 0, .int .i64 0] 41)).cell? ⟨B, 0, none⟩ = some (.slice A D.length c) := (((Below.refl _ w).alloc (Nat.le_refl _) _).cell (p := ⟨B, 0, none⟩) hB).trans hc
  have hb0 := (Below.refl w.heap.size w).alloc (Nat.le_refl _) (.cells #[.int .i64 0, .int .i64 0, .int .i64 0] 41)
  have HC : Hid (∀ W, Below w.heap.size w W → W.cell? ⟨B, 0, none⟩ = some (.slice A D.length c)) := Lib.hid fun W h => (h.cell (p := ⟨B, 0, none⟩) hB).trans hc
  generalize (P17.at_ D (i + 2) 3 : Int) = K3 at *
  generalize (P17.at_ D i 7 : Int) = W7 at *
  generalize (P17.at_ D (i + 1) 4 : Int) = X4 at *
  generalize (P17.at_ D (i + 1) 28 : Int) = X28 at *
  clear hJ hi l1 l2 l3 l4 hc
  generalize D.length = N at *
  have hS2 : ∀ {W : World}, Below w.heap.size w W → W.cell? ⟨B, 0, none⟩ = some (.slice A N c) := fun h => HC.out _ h
  have hR0 : Blk ((w.alloc (.cells #[.int .i64 0, .int .i64 0, .int .i64 0] 41)).drew) w.heap.size 41 #[.int .i64 0, .int .i64 0, .int .i64 0] := Blk.new w _ _
  have hS2 : ∀ {W : World}, Below w.heap.size w W → W.cell? ⟨B, 0, none⟩ = some (.slice A N c) := fun h => HC.out _ h
  have hR0 : Blk ((w.alloc (.cells #[.int .i64 0, .int .i64 0, .int .i64 0] 41)).drew) w.heap.size 41 #[.int .i64 0, .int .i64 0, .int .i64 0] := Blk.new w _ _
  have hS2 : ∀ {W : World}, Below w.heap.size w W → W.cell? ⟨B, 0, none⟩ = some (.slice A N c) := fun h => HC.out _ h
  have hR0 : Blk ((w.alloc (.cells #[.int .i64 0, .int .i64 0, .int .i64 0] 41)).drew) w.heap.size 41 #[.int .i64 0, .int .i64 0, .int .i64 0] := Blk.new w _ _
  rcases hK with rfl | rfl | rfl
  · go_enter Tryd.func104, Tryd.ntmps104
    go_wp2_with fail
    refine (c1.out _ hb0).mono ?_
    rintro e w1 ⟨rfl, rfl⟩
    go_upto_region 2 with fail
    refine wp_region_shape [(some 8, []), (some 9, [0]), (some 10, []), (some 11, []), (some 12, []), (some 13, [4]), (some 14, [3, 5]), (some 15, [6]), (some 16, [7]), (some 17, [2, 8]), (some 18, []), (some 19, []), (some 20, [11]), (some 21, [10, 12, 6]), (some 22, [13]), (some 23, [14]), (some 24, [1, 9, 15]), (some 25, []), (some 26, []), (some 27, [18]), (some 28, [17, 19, 13]), (some 29, [16, 20]), (some 30, [21]), (none, [22, 20, 0, 1, 2, 3, 4, 5, 6, 7, 8, 9, 10, 11, 12, 13, 14, 15, 16, 17, 18, 19, 20, 21, 22])] (fun y => { tmps := #[.int .i64 J, .pointer (some ⟨B, 0, none⟩), undef, .pointer (some ⟨w.heap.size, 0, none⟩), .int .i64 W7, .slice A N c, .int .i64 J, .int .i64 W7, y 8, y 9, y 10, y 11, y 12, y 13, y 14, y 15, y 16, y 17, y 18, y 19, y 20, y 21, y 22, y 23, y 24, y 25, y 26, y 27, y 28, y 29, y 30], defers := [] }) (fun _ => undef) (fun j => j == 16 || j == 21 || j == 23) [.int .i64 W7, .agg #[.int .i64 2, .int .i64 W7, .int .i64 0], .int .i64 W7, .slice A N c, .int .i64 J, .int .i64 (J + 1), .int .i64 X4, .int .i64 (7 * X4), .int .i64 (1 + 7 * X4), .agg #[.int .i64 3, .int .i64 W7, .int .i64 (1 + 7 * X4)], .slice A N c, .int .i64 J, .int .i64 (J + 1), .int .i64 X28, .int .i64 (1 + X28), .agg #[.int .i64 1, .int .i64 0, .int .i64 (1 + X28)], undef, .slice A N c, .int .i64 J, .int .i64 (J + 2), .int .i64 0, undef, .agg #[.int .i64 2, .int .i64 W7, .int .i64 0], undef] (fun j y W => match j with | 16 => ∃ g, y 24 = .slice (some ⟨g, 0, none⟩) 3 3 ∧ g ≠ w.heap.size ∧ Blk W g 41 #[.int .i64 2, .int .i64 W7, .int .i64 0, .int .i64 3, .int .i64 W7, .int .i64 (1 + 7 * X4), .int .i64 1, .int .i64 0, .int .i64 (1 + X28)] | 21 => ∃ g, y 29 = .pointer (some ⟨g, 0, none⟩) ∧ g ≠ w.heap.size ∧ Blk W g 41 #[.int .i64 2, .int .i64 W7, .int .i64 0, .int .i64 3, .int .i64 W7, .int .i64 (1 + 7 * X4), .int .i64 1, .int .i64 0, .int .i64 (1 + X28)] | 23 => Blk W w.heap.size 41 #[.int .i64 2, .int .i64 W7, .int .i64 0] | _ => True) (fun j => match j with | 16 => [24] | 21 => [29] | 23 => [] | _ => []) (fun W W' => ∀ g t cs, g ≠ w.heap.size → Blk W g t cs → Blk W' g t cs) (fun W => Below w.heap.size w W ∧ W.cell? ⟨B, 0, none⟩ = some (.slice A N c) ∧ ∃ a b d, Blk W w.heap.size 41 #[a, b, d]) (by kernel_rfl) (by kernel_rfl) (by decide +kernel) rfl ⟨hb0.drew, HC.out _ hb0.drew, _, _, _, hR0⟩ ?hput ?hloc ?hmono ?hstep ?hdone
    case hput =>
      intro d hd y v
      simp only [List.filterMap_cons, List.filterMap_nil, List.mem_cons, List.not_mem_nil, or_false] at hd
      rcases hd with rfl | rfl | rfl | rfl | rfl | rfl | rfl | rfl | rfl | rfl | rfl | rfl | rfl | rfl | rfl | rfl | rfl | rfl | rfl | rfl | rfl | rfl | rfl
      all_goals rfl
    case hloc =>
      intro j hj y y' W hk hx
      have hj' : j = 16 ∨ j = 21 ∨ j = 23 := by simpa [or_assoc] using hj
      rcases hj' with rfl | rfl | rfl
      · simp only [List.forall_mem_cons, List.not_mem_nil, false_imp_iff, implies_true, and_true] at hk
        show _
        simpa only [hk] using hx
      · simp only [List.forall_mem_cons, List.not_mem_nil, false_imp_iff, implies_true, and_true] at hk
        show _
        simpa only [hk] using hx
      · skip
        exact hx
    case hmono =>
      intro j hj hlast y W W' hg hx
      have hj' : j = 16 ∨ j = 21 ∨ j = 23 := by simpa [or_assoc] using hj
      rcases hj' with rfl | rfl | rfl
      · exact pass_g hg hx
      · exact pass_g hg hx
      · exact absurd hlast (by decide)
    case hdone =>
      intro y W hS hd
      have x23 : (fun (y : Nat → Value) (W : World) => Blk W w.heap.size 41 #[.int .i64 2, .int .i64 W7, .int .i64 0]) y W := (hd 23 (by decide)).ex rfl
      obtain ⟨hb, hc, a, b, d, hr⟩ := hS
      have r0 := x23.cell 0
      have r1 := x23.cell 1
      have r2 := x23.cell 2
      go_wp2_with fail
      exact bodyPost_ret (v := .agg #[.int .i64 2, .int .i64 W7, .int .i64 0]) (by simp [results, Tryd.results104, go_sem, r0, r1, r2]) rfl ⟨rfl, hb⟩
    case hstep =>
      refine StepsOk.cons (StepOk.known rfl fun y W hS hd K' hK => ?_) ?_
      · skip
        clear hd
        go_simp
        exact hK.out _ _ rfl (fun _ _ _ _ h => h) hS
      refine StepsOk.cons (StepOk.known rfl fun y W hS hd K' hK => ?_) ?_
      · skip
        have e8 : y 8 = .int .i64 W7 := (hd 0 rfl).val rfl rfl
        clear hd
        go_simp
        exact hK.out _ _ (by first | rfl | (simp only [e8]; done) | (simp only [e8]; rfl)) (fun _ _ _ _ h => h) hS
      refine StepsOk.cons (StepOk.known rfl fun y W hS hd K' hK => ?_) ?_
      · skip
        clear hd
        go_simp
        exact hK.out _ _ rfl (fun _ _ _ _ h => h) hS
      refine StepsOk.cons (StepOk.known rfl fun y W hS hd K' hK => ?_) ?_
      · skip
        clear hd
        have hc := hS.2.1
        go_simp
        exact hK.out _ _ rfl (fun _ _ _ _ h => h) hS
      refine StepsOk.cons (StepOk.known rfl fun y W hS hd K' hK => ?_) ?_
      · skip
        clear hd
        go_simp
        exact hK.out _ _ rfl (fun _ _ _ _ h => h) hS
      refine StepsOk.cons (StepOk.known rfl fun y W hS hd K' hK => ?_) ?_
      · skip
        have e12 : y 12 = .int .i64 J := (hd 4 rfl).val rfl rfl
        clear hd
        go_simp
        exact hK.out _ _ (by first | rfl | (simp only [e12]; done) | (simp only [e12]; rfl)) (fun _ _ _ _ h => h) hS
      refine StepsOk.cons (StepOk.known rfl fun y W hS hd K' hK => ?_) ?_
      · skip
        have e11 : y 11 = .slice A N c := (hd 3 rfl).val rfl rfl
        have e13 : y 13 = .int .i64 (J + 1) := (hd 5 rfl).val rfl rfl
        clear hd
        go_simp
        refine (c2.out _ hS.1).mono ?_
        rintro e W' ⟨rfl, rfl⟩
        go_wp2_with fail
        exact hK.out _ _ (by first | rfl | (simp only [e11, e13]; done) | (simp only [e11, e13]; rfl)) (fun _ _ _ _ h => h) hS
      refine StepsOk.cons (StepOk.known rfl fun y W hS hd K' hK => ?_) ?_
      · skip
        have e14 : y 14 = .int .i64 X4 := (hd 6 rfl).val rfl rfl
        clear hd
        go_simp
        exact hK.out _ _ (by first | rfl | (simp only [e14]; done) | (simp only [e14]; rfl)) (fun _ _ _ _ h => h) hS
      refine StepsOk.cons (StepOk.known rfl fun y W hS hd K' hK => ?_) ?_
      · skip
        have e15 : y 15 = .int .i64 (7 * X4) := (hd 7 rfl).val rfl rfl
        clear hd
        go_simp
        exact hK.out _ _ (by first | rfl | (simp only [e15]; done) | (simp only [e15]; rfl)) (fun _ _ _ _ h => h) hS
      refine StepsOk.cons (StepOk.known rfl fun y W hS hd K' hK => ?_) ?_
      · skip
        have e10 : y 10 = .int .i64 W7 := (hd 2 rfl).val rfl rfl
        have e16 : y 16 = .int .i64 (1 + 7 * X4) := (hd 8 rfl).val rfl rfl
        clear hd
        go_simp
        exact hK.out _ _ (by first | rfl | (simp only [e10, e16]; done) | (simp only [e10, e16]; rfl)) (fun _ _ _ _ h => h) hS
      refine StepsOk.cons (StepOk.known rfl fun y W hS hd K' hK => ?_) ?_
      · skip
        clear hd
        have hc := hS.2.1
        go_simp
        exact hK.out _ _ rfl (fun _ _ _ _ h => h) hS
      refine StepsOk.cons (StepOk.known rfl fun y W hS hd K' hK => ?_) ?_
      · skip
        clear hd
        go_simp
        exact hK.out _ _ rfl (fun _ _ _ _ h => h) hS
      refine StepsOk.cons (StepOk.known rfl fun y W hS hd K' hK => ?_) ?_
      · skip
        have e19 : y 19 = .int .i64 J := (hd 11 rfl).val rfl rfl
        clear hd
        go_simp
        exact hK.out _ _ (by first | rfl | (simp only [e19]; done) | (simp only [e19]; rfl)) (fun _ _ _ _ h => h) hS
      refine StepsOk.cons (StepOk.known rfl fun y W hS hd K' hK => ?_) ?_
      · skip
        have e14 : y 14 = .int .i64 X4 := (hd 6 rfl).val rfl rfl
        have e18 : y 18 = .slice A N c := (hd 10 rfl).val rfl rfl
        have e20 : y 20 = .int .i64 (J + 1) := (hd 12 rfl).val rfl rfl
        clear hd
        go_simp
        refine (c3.out _ hS.1).mono ?_
        rintro e W' ⟨rfl, rfl⟩
        go_wp2_with fail
        exact hK.out _ _ (by first | rfl | (simp only [e14, e18, e20]; done) | (simp only [e14, e18, e20]; rfl)) (fun _ _ _ _ h => h) hS
      refine StepsOk.cons (StepOk.known rfl fun y W hS hd K' hK => ?_) ?_
      · skip
        have e21 : y 21 = .int .i64 X28 := (hd 13 rfl).val rfl rfl
        clear hd
        go_simp
        exact hK.out _ _ (by first | rfl | (simp only [e21]; done) | (simp only [e21]; rfl)) (fun _ _ _ _ h => h) hS
      refine StepsOk.cons (StepOk.known rfl fun y W hS hd K' hK => ?_) ?_
      · skip
        have e22 : y 22 = .int .i64 (1 + X28) := (hd 14 rfl).val rfl rfl
        clear hd
        go_simp
        exact hK.out _ _ (by first | rfl | (simp only [e22]; done) | (simp only [e22]; rfl)) (fun _ _ _ _ h => h) hS
      refine StepsOk.cons (StepOk.other rfl fun y W hS hd K' hK => ?_) ?_
      · skip
        have e9 : y 9 = .agg #[.int .i64 2, .int .i64 W7, .int .i64 0] := (hd 1 rfl).val rfl rfl
        have e17 : y 17 = .agg #[.int .i64 3, .int .i64 W7, .int .i64 (1 + 7 * X4)] := (hd 9 rfl).val rfl rfl
        have e23 : y 23 = .agg #[.int .i64 1, .int .i64 0, .int .i64 (1 + X28)] := (hd 15 rfl).val rfl rfl
        clear hd
        obtain ⟨hb, hc, a, b, d, hr⟩ := hS
        go_simp
        exact hK.out _ _ _ (by first | rfl | (simp only [e9, e17, e23]; done) | (simp only [e9, e17, e23]; rfl)) (fun _ _ _ _ h => h.alloc _) ⟨hb.alloc hb.size _, (hS2 (hb.alloc hb.size _)), a, b, d, hr.alloc _⟩ (show ∃ g, _ = Value.slice (some ⟨g, 0, none⟩) 3 3 ∧ g ≠ w.heap.size ∧ Blk _ g 41 #[.int .i64 2, .int .i64 W7, .int .i64 0, .int .i64 3, .int .i64 W7, .int .i64 (1 + 7 * X4), .int .i64 1, .int .i64 0, .int .i64 (1 + X28)] from ⟨_, rfl, by have := hr.lt; omega, Blk.new W _ _⟩)
      refine StepsOk.cons (StepOk.known rfl fun y W hS hd K' hK => ?_) ?_
      · skip
        clear hd
        have hc := hS.2.1
        go_simp
        exact hK.out _ _ rfl (fun _ _ _ _ h => h) hS
      refine StepsOk.cons (StepOk.known rfl fun y W hS hd K' hK => ?_) ?_
      · skip
        clear hd
        go_simp
        exact hK.out _ _ rfl (fun _ _ _ _ h => h) hS
      refine StepsOk.cons (StepOk.known rfl fun y W hS hd K' hK => ?_) ?_
      · skip
        have e26 : y 26 = .int .i64 J := (hd 18 rfl).val rfl rfl
        clear hd
        go_simp
        exact hK.out _ _ (by first | rfl | (simp only [e26]; done) | (simp only [e26]; rfl)) (fun _ _ _ _ h => h) hS
      refine StepsOk.cons (StepOk.known rfl fun y W hS hd K' hK => ?_) ?_
      · skip
        have e21 : y 21 = .int .i64 X28 := (hd 13 rfl).val rfl rfl
        have e25 : y 25 = .slice A N c := (hd 17 rfl).val rfl rfl
        have e27 : y 27 = .int .i64 (J + 2) := (hd 19 rfl).val rfl rfl
        clear hd
        go_simp
        refine (c4.out _ hS.1).mono ?_
        rintro e W' ⟨rfl, rfl⟩
        go_wp2_with fail
        exact hK.out _ _ (by first | rfl | (simp only [e21, e25, e27]; done) | (simp only [e21, e25, e27]; rfl)) (fun _ _ _ _ h => h) hS
      refine StepsOk.cons (StepOk.other rfl fun y W hS hd K' hK => ?_) ?_
      · skip
        have x16 : (fun (y : Nat → Value) (W : World) => ∃ g, y 24 = .slice (some ⟨g, 0, none⟩) 3 3 ∧ g ≠ w.heap.size ∧ Blk W g 41 #[.int .i64 2, .int .i64 W7, .int .i64 0, .int .i64 3, .int .i64 W7, .int .i64 (1 + 7 * X4), .int .i64 1, .int .i64 0, .int .i64 (1 + X28)]) y W := (hd 16 rfl).ex rfl
        have e28 : y 28 = .int .i64 0 := (hd 20 rfl).val rfl rfl
        clear hd
        obtain ⟨g, h1, h2, h3⟩ := x16
        go_simp
        exact hK.out _ _ _ (by first | rfl | (simp only [e28, h1]; done) | (simp only [e28, h1]; rfl)) (fun _ _ _ _ h => h) hS (show ∃ g, _ = Value.pointer (some ⟨g, 0, none⟩) ∧ g ≠ w.heap.size ∧ Blk W g 41 #[.int .i64 2, .int .i64 W7, .int .i64 0, .int .i64 3, .int .i64 W7, .int .i64 (1 + 7 * X4), .int .i64 1, .int .i64 0, .int .i64 (1 + X28)] from ⟨g, rfl, h2, h3⟩)
      refine StepsOk.cons (StepOk.known rfl fun y W hS hd K' hK => ?_) ?_
      · skip
        have x21 : (fun (y : Nat → Value) (W : World) => ∃ g, y 29 = .pointer (some ⟨g, 0, none⟩) ∧ g ≠ w.heap.size ∧ Blk W g 41 #[.int .i64 2, .int .i64 W7, .int .i64 0, .int .i64 3, .int .i64 W7, .int .i64 (1 + 7 * X4), .int .i64 1, .int .i64 0, .int .i64 (1 + X28)]) y W := (hd 21 rfl).ex rfl
        clear hd
        obtain ⟨g, h1, h2, h3⟩ := x21
        have k0 := (h3.cell 0).trans rfl
        have k1 := (h3.cell 1).trans rfl
        have k2 := (h3.cell 2).trans rfl
        go_simp
        exact hK.out _ _ (by first | rfl | (simp only [h1]; done) | (simp only [h1]; rfl)) (fun _ _ _ _ h => h) hS
      refine StepsOk.cons (StepOk.other rfl fun y W hS hd K' hK => ?_) ?_
      · skip
        have e8 : y 8 = .int .i64 W7 := (hd 0 rfl).val rfl rfl
        have e9 : y 9 = .agg #[.int .i64 2, .int .i64 W7, .int .i64 0] := (hd 1 rfl).val rfl rfl
        have e10 : y 10 = .int .i64 W7 := (hd 2 rfl).val rfl rfl
        have e11 : y 11 = .slice A N c := (hd 3 rfl).val rfl rfl
        have e12 : y 12 = .int .i64 J := (hd 4 rfl).val rfl rfl
        have e13 : y 13 = .int .i64 (J + 1) := (hd 5 rfl).val rfl rfl
        have e14 : y 14 = .int .i64 X4 := (hd 6 rfl).val rfl rfl
        have e15 : y 15 = .int .i64 (7 * X4) := (hd 7 rfl).val rfl rfl
        have e16 : y 16 = .int .i64 (1 + 7 * X4) := (hd 8 rfl).val rfl rfl
        have e17 : y 17 = .agg #[.int .i64 3, .int .i64 W7, .int .i64 (1 + 7 * X4)] := (hd 9 rfl).val rfl rfl
        have e18 : y 18 = .slice A N c := (hd 10 rfl).val rfl rfl
        have e19 : y 19 = .int .i64 J := (hd 11 rfl).val rfl rfl
        have e20 : y 20 = .int .i64 (J + 1) := (hd 12 rfl).val rfl rfl
        have e21 : y 21 = .int .i64 X28 := (hd 13 rfl).val rfl rfl
        have e22 : y 22 = .int .i64 (1 + X28) := (hd 14 rfl).val rfl rfl
        have e23 : y 23 = .agg #[.int .i64 1, .int .i64 0, .int .i64 (1 + X28)] := (hd 15 rfl).val rfl rfl
        have x16 : (fun (y : Nat → Value) (W : World) => ∃ g, y 24 = .slice (some ⟨g, 0, none⟩) 3 3 ∧ g ≠ w.heap.size ∧ Blk W g 41 #[.int .i64 2, .int .i64 W7, .int .i64 0, .int .i64 3, .int .i64 W7, .int .i64 (1 + 7 * X4), .int .i64 1, .int .i64 0, .int .i64 (1 + X28)]) y W := (hd 16 rfl).ex rfl
        have e25 : y 25 = .slice A N c := (hd 17 rfl).val rfl rfl
        have e26 : y 26 = .int .i64 J := (hd 18 rfl).val rfl rfl
        have e27 : y 27 = .int .i64 (J + 2) := (hd 19 rfl).val rfl rfl
        have e28 : y 28 = .int .i64 0 := (hd 20 rfl).val rfl rfl
        have x21 : (fun (y : Nat → Value) (W : World) => ∃ g, y 29 = .pointer (some ⟨g, 0, none⟩) ∧ g ≠ w.heap.size ∧ Blk W g 41 #[.int .i64 2, .int .i64 W7, .int .i64 0, .int .i64 3, .int .i64 W7, .int .i64 (1 + 7 * X4), .int .i64 1, .int .i64 0, .int .i64 (1 + X28)]) y W := (hd 21 rfl).ex rfl
        have e30 : y 30 = .agg #[.int .i64 2, .int .i64 W7, .int .i64 0] := (hd 22 rfl).val rfl rfl
        clear hd
        obtain ⟨hb, hc, a, b, d, hr⟩ := hS
        have k0 := (hr.cell 0).trans rfl
        have k1 := (hr.cell 1).trans rfl
        have k2 := (hr.cell 2).trans rfl
        have f0 := hr.frozen 0
        have f1 := hr.frozen 1
        have f2 := hr.frozen 2
        have hr3 := ((hr.set_ 0 (.int .i64 2)).set_ 1 (.int .i64 W7)).set_ 2 (.int .i64 0)
        have hb3 := ((hb.setCell (p := ⟨w.heap.size, 0, none⟩) (Nat.le_refl _) (.int .i64 2)).setCell (p := ⟨w.heap.size, 1, none⟩) (Nat.le_refl _) (.int .i64 W7)).setCell (p := ⟨w.heap.size, 2, none⟩) (Nat.le_refl _) (.int .i64 0)
        go_simp
        exact hK.out undef _ _ (by first | rfl | (simp only [e8, e9, e10, e11, e12, e13, e14, e15, e16, e17, e18, e19, e20, e21, e22, e23, e25, e26, e27, e28, e30]; done) | (simp only [e8, e9, e10, e11, e12, e13, e14, e15, e16, e17, e18, e19, e20, e21, e22, e23, e25, e26, e27, e28, e30]; rfl)) (fun g _ _ hg h => ((h.far hg _).far hg _).far hg _) ⟨hb3, hS2 hb3, _, _, _, hr3⟩ hr3
      exact StepsOk.nil
  · go_enter Tryd.func104, Tryd.ntmps104
    go_wp2_with fail
    refine (c1.out _ hb0).mono ?_
    rintro e w1 ⟨rfl, rfl⟩
    go_upto_region 2 with fail
    refine wp_region_shape [(some 8, []), (some 9, [0]), (some 10, []), (some 11, []), (some 12, []), (some 13, [4]), (some 14, [3, 5]), (some 15, [6]), (some 16, [7]), (some 17, [2, 8]), (some 18, []), (some 19, []), (some 20, [11]), (some 21, [10, 12, 6]), (some 22, [13]), (some 23, [14]), (some 24, [1, 9, 15]), (some 25, []), (some 26, []), (some 27, [18]), (some 28, [17, 19, 13]), (some 29, [16, 20]), (some 30, [21]), (none, [22, 20, 0, 1, 2, 3, 4, 5, 6, 7, 8, 9, 10, 11, 12, 13, 14, 15, 16, 17, 18, 19, 20, 21, 22])] (fun y => { tmps := #[.int .i64 J, .pointer (some ⟨B, 0, none⟩), undef, .pointer (some ⟨w.heap.size, 0, none⟩), .int .i64 W7, .slice A N c, .int .i64 J, .int .i64 W7, y 8, y 9, y 10, y 11, y 12, y 13, y 14, y 15, y 16, y 17, y 18, y 19, y 20, y 21, y 22, y 23, y 24, y 25, y 26, y 27, y 28, y 29, y 30], defers := [] }) (fun _ => undef) (fun j => j == 16 || j == 21 || j == 23) [.int .i64 W7, .agg #[.int .i64 2, .int .i64 W7, .int .i64 0], .int .i64 W7, .slice A N c, .int .i64 J, .int .i64 (J + 1), .int .i64 X4, .int .i64 (7 * X4), .int .i64 (1 + 7 * X4), .agg #[.int .i64 3, .int .i64 W7, .int .i64 (1 + 7 * X4)], .slice A N c, .int .i64 J, .int .i64 (J + 1), .int .i64 X28, .int .i64 (1 + X28), .agg #[.int .i64 1, .int .i64 0, .int .i64 (1 + X28)], undef, .slice A N c, .int .i64 J, .int .i64 (J + 2), .int .i64 1, undef, .agg #[.int .i64 3, .int .i64 W7, .int .i64 (1 + 7 * X4)], undef] (fun j y W => match j with | 16 => ∃ g, y 24 = .slice (some ⟨g, 0, none⟩) 3 3 ∧ g ≠ w.heap.size ∧ Blk W g 41 #[.int .i64 2, .int .i64 W7, .int .i64 0, .int .i64 3, .int .i64 W7, .int .i64 (1 + 7 * X4), .int .i64 1, .int .i64 0, .int .i64 (1 + X28)] | 21 => ∃ g, y 29 = .pointer (some ⟨g, 3, none⟩) ∧ g ≠ w.heap.size ∧ Blk W g 41 #[.int .i64 2, .int .i64 W7, .int .i64 0, .int .i64 3, .int .i64 W7, .int .i64 (1 + 7 * X4), .int .i64 1, .int .i64 0, .int .i64 (1 + X28)] | 23 => Blk W w.heap.size 41 #[.int .i64 3, .int .i64 W7, .int .i64 (1 + 7 * X4)] | _ => True) (fun j => match j with | 16 => [24] | 21 => [29] | 23 => [] | _ => []) (fun W W' => ∀ g t cs, g ≠ w.heap.size → Blk W g t cs → Blk W' g t cs) (fun W => Below w.heap.size w W ∧ W.cell? ⟨B, 0, none⟩ = some (.slice A N c) ∧ ∃ a b d, Blk W w.heap.size 41 #[a, b, d]) (by kernel_rfl) (by kernel_rfl) (by decide +kernel) rfl ⟨hb0.drew, HC.out _ hb0.drew, _, _, _, hR0⟩ ?hput ?hloc ?hmono ?hstep ?hdone
    case hput =>
      intro d hd y v
      simp only [List.filterMap_cons, List.filterMap_nil, List.mem_cons, List.not_mem_nil, or_false] at hd
      rcases hd with rfl | rfl | rfl | rfl | rfl | rfl | rfl | rfl | rfl | rfl | rfl | rfl | rfl | rfl | rfl | rfl | rfl | rfl | rfl | rfl | rfl | rfl | rfl
      all_goals rfl
    case hloc =>
      intro j hj y y' W hk hx
      have hj' : j = 16 ∨ j = 21 ∨ j = 23 := by simpa [or_assoc] using hj
      rcases hj' with rfl | rfl | rfl
      · simp only [List.forall_mem_cons, List.not_mem_nil, false_imp_iff, implies_true, and_true] at hk
        show _
        simpa only [hk] using hx
      · simp only [List.forall_mem_cons, List.not_mem_nil, false_imp_iff, implies_true, and_true] at hk
        show _
        simpa only [hk] using hx
      · skip
        exact hx
    case hmono =>
      intro j hj hlast y W W' hg hx
      have hj' : j = 16 ∨ j = 21 ∨ j = 23 := by simpa [or_assoc] using hj
      rcases hj' with rfl | rfl | rfl
      · exact pass_g hg hx
      · exact pass_g hg hx
      · exact absurd hlast (by decide)
    case hdone =>
      intro y W hS hd
      have x23 : (fun (y : Nat → Value) (W : World) => Blk W w.heap.size 41 #[.int .i64 3, .int .i64 W7, .int .i64 (1 + 7 * X4)]) y W := (hd 23 (by decide)).ex rfl
      obtain ⟨hb, hc, a, b, d, hr⟩ := hS
      have r0 := x23.cell 0
      have r1 := x23.cell 1
      have r2 := x23.cell 2
      go_wp2_with fail
      exact bodyPost_ret (v := .agg #[.int .i64 3, .int .i64 W7, .int .i64 (1 + 7 * X4)]) (by simp [results, Tryd.results104, go_sem, r0, r1, r2]) rfl ⟨rfl, hb⟩
    case hstep =>
      refine StepsOk.cons (StepOk.known rfl fun y W hS hd K' hK => ?_) ?_
      · skip
        clear hd
        go_simp
        exact hK.out _ _ rfl (fun _ _ _ _ h => h) hS
      refine StepsOk.cons (StepOk.known rfl fun y W hS hd K' hK => ?_) ?_
      · skip
        have e8 : y 8 = .int .i64 W7 := (hd 0 rfl).val rfl rfl
        clear hd
        go_simp
        exact hK.out _ _ (by first | rfl | (simp only [e8]; done) | (simp only [e8]; rfl)) (fun _ _ _ _ h => h) hS
      refine StepsOk.cons (StepOk.known rfl fun y W hS hd K' hK => ?_) ?_
      · skip
        clear hd
        go_simp
        exact hK.out _ _ rfl (fun _ _ _ _ h => h) hS
      refine StepsOk.cons (StepOk.known rfl fun y W hS hd K' hK => ?_) ?_
      · skip
        clear hd
        have hc := hS.2.1
        go_simp
        exact hK.out _ _ rfl (fun _ _ _ _ h => h) hS
      refine StepsOk.cons (StepOk.known rfl fun y W hS hd K' hK => ?_) ?_
      · skip
        clear hd
        go_simp
        exact hK.out _ _ rfl (fun _ _ _ _ h => h) hS
      refine StepsOk.cons (StepOk.known rfl fun y W hS hd K' hK => ?_) ?_
      · skip
        have e12 : y 12 = .int .i64 J := (hd 4 rfl).val rfl rfl
        clear hd
        go_simp
        exact hK.out _ _ (by first | rfl | (simp only [e12]; done) | (simp only [e12]; rfl)) (fun _ _ _ _ h => h) hS
      refine StepsOk.cons (StepOk.known rfl fun y W hS hd K' hK => ?_) ?_
      · skip
        have e11 : y 11 = .slice A N c := (hd 3 rfl).val rfl rfl
        have e13 : y 13 = .int .i64 (J + 1) := (hd 5 rfl).val rfl rfl
        clear hd
        go_simp
        refine (c2.out _ hS.1).mono ?_
        rintro e W' ⟨rfl, rfl⟩
        go_wp2_with fail
        exact hK.out _ _ (by first | rfl | (simp only [e11, e13]; done) | (simp only [e11, e13]; rfl)) (fun _ _ _ _ h => h) hS
      refine StepsOk.cons (StepOk.known rfl fun y W hS hd K' hK => ?_) ?_
      · skip
        have e14 : y 14 = .int .i64 X4 := (hd 6 rfl).val rfl rfl
        clear hd
        go_simp
        exact hK.out _ _ (by first | rfl | (simp only [e14]; done) | (simp only [e14]; rfl)) (fun _ _ _ _ h => h) hS
      refine StepsOk.cons (StepOk.known rfl fun y W hS hd K' hK => ?_) ?_
      · skip
        have e15 : y 15 = .int .i64 (7 * X4) := (hd 7 rfl).val rfl rfl
        clear hd
        go_simp
        exact hK.out _ _ (by first | rfl | (simp only [e15]; done) | (simp only [e15]; rfl)) (fun _ _ _ _ h => h) hS
      refine StepsOk.cons (StepOk.known rfl fun y W hS hd K' hK => ?_) ?_
      · skip
        have e10 : y 10 = .int .i64 W7 := (hd 2 rfl).val rfl rfl
        have e16 : y 16 = .int .i64 (1 + 7 * X4) := (hd 8 rfl).val rfl rfl
        clear hd
        go_simp
        exact hK.out _ _ (by first | rfl | (simp only [e10, e16]; done) | (simp only [e10, e16]; rfl)) (fun _ _ _ _ h => h) hS
      refine StepsOk.cons (StepOk.known rfl fun y W hS hd K' hK => ?_) ?_
      · skip
        clear hd
        have hc := hS.2.1
        go_simp
        exact hK.out _ _ rfl (fun _ _ _ _ h => h) hS
      refine StepsOk.cons (StepOk.known rfl fun y W hS hd K' hK => ?_) ?_
      · skip
        clear hd
        go_simp
        exact hK.out _ _ rfl (fun _ _ _ _ h => h) hS
      refine StepsOk.cons (StepOk.known rfl fun y W hS hd K' hK => ?_) ?_
      · skip
        have e19 : y 19 = .int .i64 J := (hd 11 rfl).val rfl rfl
        clear hd
        go_simp
        exact hK.out _ _ (by first | rfl | (simp only [e19]; done) | (simp only [e19]; rfl)) (fun _ _ _ _ h => h) hS
      refine StepsOk.cons (StepOk.known rfl fun y W hS hd K' hK => ?_) ?_
      · skip
        have e14 : y 14 = .int .i64 X4 := (hd 6 rfl).val rfl rfl
        have e18 : y 18 = .slice A N c := (hd 10 rfl).val rfl rfl
        have e20 : y 20 = .int .i64 (J + 1) := (hd 12 rfl).val rfl rfl
        clear hd
        go_simp
        refine (c3.out _ hS.1).mono ?_
        rintro e W' ⟨rfl, rfl⟩
        go_wp2_with fail
        exact hK.out _ _ (by first | rfl | (simp only [e14, e18, e20]; done) | (simp only [e14, e18, e20]; rfl)) (fun _ _ _ _ h => h) hS
      refine StepsOk.cons (StepOk.known rfl fun y W hS hd K' hK => ?_) ?_
      · skip
        have e21 : y 21 = .int .i64 X28 := (hd 13 rfl).val rfl rfl
        clear hd
        go_simp
        exact hK.out _ _ (by first | rfl | (simp only [e21]; done) | (simp only [e21]; rfl)) (fun _ _ _ _ h => h) hS
      refine StepsOk.cons (StepOk.known rfl fun y W hS hd K' hK => ?_) ?_
      · skip
        have e22 : y 22 = .int .i64 (1 + X28) := (hd 14 rfl).val rfl rfl
        clear hd
        go_simp
        exact hK.out _ _ (by first | rfl | (simp only [e22]; done) | (simp only [e22]; rfl)) (fun _ _ _ _ h => h) hS
      refine StepsOk.cons (StepOk.other rfl fun y W hS hd K' hK => ?_) ?_
      · skip
        have e9 : y 9 = .agg #[.int .i64 2, .int .i64 W7, .int .i64 0] := (hd 1 rfl).val rfl rfl
        have e17 : y 17 = .agg #[.int .i64 3, .int .i64 W7, .int .i64 (1 + 7 * X4)] := (hd 9 rfl).val rfl rfl
        have e23 : y 23 = .agg #[.int .i64 1, .int .i64 0, .int .i64 (1 + X28)] := (hd 15 rfl).val rfl rfl
        clear hd
        obtain ⟨hb, hc, a, b, d, hr⟩ := hS
        go_simp
        exact hK.out _ _ _ (by first | rfl | (simp only [e9, e17, e23]; done) | (simp only [e9, e17, e23]; rfl)) (fun _ _ _ _ h => h.alloc _) ⟨hb.alloc hb.size _, (hS2 (hb.alloc hb.size _)), a, b, d, hr.alloc _⟩ (show ∃ g, _ = Value.slice (some ⟨g, 0, none⟩) 3 3 ∧ g ≠ w.heap.size ∧ Blk _ g 41 #[.int .i64 2, .int .i64 W7, .int .i64 0, .int .i64 3, .int .i64 W7, .int .i64 (1 + 7 * X4), .int .i64 1, .int .i64 0, .int .i64 (1 + X28)] from ⟨_, rfl, by have := hr.lt; omega, Blk.new W _ _⟩)
      refine StepsOk.cons (StepOk.known rfl fun y W hS hd K' hK => ?_) ?_
      · skip
        clear hd
        have hc := hS.2.1
        go_simp
        exact hK.out _ _ rfl (fun _ _ _ _ h => h) hS
      refine StepsOk.cons (StepOk.known rfl fun y W hS hd K' hK => ?_) ?_
      · skip
        clear hd
        go_simp
        exact hK.out _ _ rfl (fun _ _ _ _ h => h) hS
      refine StepsOk.cons (StepOk.known rfl fun y W hS hd K' hK => ?_) ?_
      · skip
        have e26 : y 26 = .int .i64 J := (hd 18 rfl).val rfl rfl
        clear hd
        go_simp
        exact hK.out _ _ (by first | rfl | (simp only [e26]; done) | (simp only [e26]; rfl)) (fun _ _ _ _ h => h) hS
      refine StepsOk.cons (StepOk.known rfl fun y W hS hd K' hK => ?_) ?_
      · skip
        have e21 : y 21 = .int .i64 X28 := (hd 13 rfl).val rfl rfl
        have e25 : y 25 = .slice A N c := (hd 17 rfl).val rfl rfl
        have e27 : y 27 = .int .i64 (J + 2) := (hd 19 rfl).val rfl rfl
        clear hd
        go_simp
        refine (c4.out _ hS.1).mono ?_
        rintro e W' ⟨rfl, rfl⟩
        go_wp2_with fail
        exact hK.out _ _ (by first | rfl | (simp only [e21, e25, e27]; done) | (simp only [e21, e25, e27]; rfl)) (fun _ _ _ _ h => h) hS
      refine StepsOk.cons (StepOk.other rfl fun y W hS hd K' hK => ?_) ?_
      · skip
        have x16 : (fun (y : Nat → Value) (W : World) => ∃ g, y 24 = .slice (some ⟨g, 0, none⟩) 3 3 ∧ g ≠ w.heap.size ∧ Blk W g 41 #[.int .i64 2, .int .i64 W7, .int .i64 0, .int .i64 3, .int .i64 W7, .int .i64 (1 + 7 * X4), .int .i64 1, .int .i64 0, .int .i64 (1 + X28)]) y W := (hd 16 rfl).ex rfl
        have e28 : y 28 = .int .i64 1 := (hd 20 rfl).val rfl rfl
        clear hd
        obtain ⟨g, h1, h2, h3⟩ := x16
        go_simp
        exact hK.out _ _ _ (by first | rfl | (simp only [e28, h1]; done) | (simp only [e28, h1]; rfl)) (fun _ _ _ _ h => h) hS (show ∃ g, _ = Value.pointer (some ⟨g, 3, none⟩) ∧ g ≠ w.heap.size ∧ Blk W g 41 #[.int .i64 2, .int .i64 W7, .int .i64 0, .int .i64 3, .int .i64 W7, .int .i64 (1 + 7 * X4), .int .i64 1, .int .i64 0, .int .i64 (1 + X28)] from ⟨g, rfl, h2, h3⟩)
      refine StepsOk.cons (StepOk.known rfl fun y W hS hd K' hK => ?_) ?_
      · skip
        have x21 : (fun (y : Nat → Value) (W : World) => ∃ g, y 29 = .pointer (some ⟨g, 3, none⟩) ∧ g ≠ w.heap.size ∧ Blk W g 41 #[.int .i64 2, .int .i64 W7, .int .i64 0, .int .i64 3, .int .i64 W7, .int .i64 (1 + 7 * X4), .int .i64 1, .int .i64 0, .int .i64 (1 + X28)]) y W := (hd 21 rfl).ex rfl
        clear hd
        obtain ⟨g, h1, h2, h3⟩ := x21
        have k0 := (h3.cell 3).trans rfl
        have k1 := (h3.cell 4).trans rfl
        have k2 := (h3.cell 5).trans rfl
        go_simp
        exact hK.out _ _ (by first | rfl | (simp only [h1]; done) | (simp only [h1]; rfl)) (fun _ _ _ _ h => h) hS
      refine StepsOk.cons (StepOk.other rfl fun y W hS hd K' hK => ?_) ?_
      · skip
        have e8 : y 8 = .int .i64 W7 := (hd 0 rfl).val rfl rfl
        have e9 : y 9 = .agg #[.int .i64 2, .int .i64 W7, .int .i64 0] := (hd 1 rfl).val rfl rfl
        have e10 : y 10 = .int .i64 W7 := (hd 2 rfl).val rfl rfl
        have e11 : y 11 = .slice A N c := (hd 3 rfl).val rfl rfl
        have e12 : y 12 = .int .i64 J := (hd 4 rfl).val rfl rfl
        have e13 : y 13 = .int .i64 (J + 1) := (hd 5 rfl).val rfl rfl
        have e14 : y 14 = .int .i64 X4 := (hd 6 rfl).val rfl rfl
        have e15 : y 15 = .int .i64 (7 * X4) := (hd 7 rfl).val rfl rfl
        have e16 : y 16 = .int .i64 (1 + 7 * X4) := (hd 8 rfl).val rfl rfl
        have e17 : y 17 = .agg #[.int .i64 3, .int .i64 W7, .int .i64 (1 + 7 * X4)] := (hd 9 rfl).val rfl rfl
        have e18 : y 18 = .slice A N c := (hd 10 rfl).val rfl rfl
        have e19 : y 19 = .int .i64 J := (hd 11 rfl).val rfl rfl
        have e20 : y 20 = .int .i64 (J + 1) := (hd 12 rfl).val rfl rfl
        have e21 : y 21 = .int .i64 X28 := (hd 13 rfl).val rfl rfl
        have e22 : y 22 = .int .i64 (1 + X28) := (hd 14 rfl).val rfl rfl
        have e23 : y 23 = .agg #[.int .i64 1, .int .i64 0, .int .i64 (1 + X28)] := (hd 15 rfl).val rfl rfl
        have x16 : (fun (y : Nat → Value) (W : World) => ∃ g, y 24 = .slice (some ⟨g, 0, none⟩) 3 3 ∧ g ≠ w.heap.size ∧ Blk W g 41 #[.int .i64 2, .int .i64 W7, .int .i64 0, .int .i64 3, .int .i64 W7, .int .i64 (1 + 7 * X4), .int .i64 1, .int .i64 0, .int .i64 (1 + X28)]) y W := (hd 16 rfl).ex rfl
        have e25 : y 25 = .slice A N c := (hd 17 rfl).val rfl rfl
        have e26 : y 26 = .int .i64 J := (hd 18 rfl).val rfl rfl
        have e27 : y 27 = .int .i64 (J + 2) := (hd 19 rfl).val rfl rfl
        have e28 : y 28 = .int .i64 1 := (hd 20 rfl).val rfl rfl
        have x21 : (fun (y : Nat → Value) (W : World) => ∃ g, y 29 = .pointer (some ⟨g, 3, none⟩) ∧ g ≠ w.heap.size ∧ Blk W g 41 #[.int .i64 2, .int .i64 W7, .int .i64 0, .int .i64 3, .int .i64 W7, .int .i64 (1 + 7 * X4), .int .i64 1, .int .i64 0, .int .i64 (1 + X28)]) y W := (hd 21 rfl).ex rfl
        have e30 : y 30 = .agg #[.int .i64 3, .int .i64 W7, .int .i64 (1 + 7 * X4)] := (hd 22 rfl).val rfl rfl
        clear hd
        obtain ⟨hb, hc, a, b, d, hr⟩ := hS
        have k0 := (hr.cell 0).trans rfl
        have k1 := (hr.cell 1).trans rfl
        have k2 := (hr.cell 2).trans rfl
        have f0 := hr.frozen 0
        have f1 := hr.frozen 1
        have f2 := hr.frozen 2
        have hr3 := ((hr.set_ 0 (.int .i64 3)).set_ 1 (.int .i64 W7)).set_ 2 (.int .i64 (1 + 7 * X4))
        have hb3 := ((hb.setCell (p := ⟨w.heap.size, 0, none⟩) (Nat.le_refl _) (.int .i64 3)).setCell (p := ⟨w.heap.size, 1, none⟩) (Nat.le_refl _) (.int .i64 W7)).setCell (p := ⟨w.heap.size, 2, none⟩) (Nat.le_refl _) (.int .i64 (1 + 7 * X4))
        go_simp
        exact hK.out undef _ _ (by first | rfl | (simp only [e8, e9, e10, e11, e12, e13, e14, e15, e16, e17, e18, e19, e20, e21, e22, e23, e25, e26, e27, e28, e30]; done) | (simp only [e8, e9, e10, e11, e12, e13, e14, e15, e16, e17, e18, e19, e20, e21, e22, e23, e25, e26, e27, e28, e30]; rfl)) (fun g _ _ hg h => ((h.far hg _).far hg _).far hg _) ⟨hb3, hS2 hb3, _, _, _, hr3⟩ hr3
      exact StepsOk.nil
  · go_enter Tryd.func104, Tryd.ntmps104
    go_wp2_with fail
    refine (c1.out _ hb0).mono ?_
    rintro e w1 ⟨rfl, rfl⟩
    go_upto_region 2 with fail
    refine wp_region_shape [(some 8, []), (some 9, [0]), (some 10, []), (some 11, []), (some 12, []), (some 13, [4]), (some 14, [3, 5]), (some 15, [6]), (some 16, [7]), (some 17, [2, 8]), (some 18, []), (some 19, []), (some 20, [11]), (some 21, [10, 12, 6]), (some 22, [13]), (some 23, [14]), (some 24, [1, 9, 15]), (some 25, []), (some 26, []), (some 27, [18]), (some 28, [17, 19, 13]), (some 29, [16, 20]), (some 30, [21]), (none, [22, 20, 0, 1, 2, 3, 4, 5, 6, 7, 8, 9, 10, 11, 12, 13, 14, 15, 16, 17, 18, 19, 20, 21, 22])] (fun y => { tmps := #[.int .i64 J, .pointer (some ⟨B, 0, none⟩), undef, .pointer (some ⟨w.heap.size, 0, none⟩), .int .i64 W7, .slice A N c, .int .i64 J, .int .i64 W7, y 8, y 9, y 10, y 11, y 12, y 13, y 14, y 15, y 16, y 17, y 18, y 19, y 20, y 21, y 22, y 23, y 24, y 25, y 26, y 27, y 28, y 29, y 30], defers := [] }) (fun _ => undef) (fun j => j == 16 || j == 21 || j == 23) [.int .i64 W7, .agg #[.int .i64 2, .int .i64 W7, .int .i64 0], .int .i64 W7, .slice A N c, .int .i64 J, .int .i64 (J + 1), .int .i64 X4, .int .i64 (7 * X4), .int .i64 (1 + 7 * X4), .agg #[.int .i64 3, .int .i64 W7, .int .i64 (1 + 7 * X4)], .slice A N c, .int .i64 J, .int .i64 (J + 1), .int .i64 X28, .int .i64 (1 + X28), .agg #[.int .i64 1, .int .i64 0, .int .i64 (1 + X28)], undef, .slice A N c, .int .i64 J, .int .i64 (J + 2), .int .i64 2, undef, .agg #[.int .i64 1, .int .i64 0, .int .i64 (1 + X28)], undef] (fun j y W => match j with | 16 => ∃ g, y 24 = .slice (some ⟨g, 0, none⟩) 3 3 ∧ g ≠ w.heap.size ∧ Blk W g 41 #[.int .i64 2, .int .i64 W7, .int .i64 0, .int .i64 3, .int .i64 W7, .int .i64 (1 + 7 * X4), .int .i64 1, .int .i64 0, .int .i64 (1 + X28)] | 21 => ∃ g, y 29 = .pointer (some ⟨g, 6, none⟩) ∧ g ≠ w.heap.size ∧ Blk W g 41 #[.int .i64 2, .int .i64 W7, .int .i64 0, .int .i64 3, .int .i64 W7, .int .i64 (1 + 7 * X4), .int .i64 1, .int .i64 0, .int .i64 (1 + X28)] | 23 => Blk W w.heap.size 41 #[.int .i64 1, .int .i64 0, .int .i64 (1 + X28)] | _ => True) (fun j => match j with | 16 => [24] | 21 => [29] | 23 => [] | _ => []) (fun W W' => ∀ g t cs, g ≠ w.heap.size → Blk W g t cs → Blk W' g t cs) (fun W => Below w.heap.size w W ∧ W.cell? ⟨B, 0, none⟩ = some (.slice A N c) ∧ ∃ a b d, Blk W w.heap.size 41 #[a, b, d]) (by kernel_rfl) (by kernel_rfl) (by decide +kernel) rfl ⟨hb0.drew, HC.out _ hb0.drew, _, _, _, hR0⟩ ?hput ?hloc ?hmono ?hstep ?hdone
    case hput =>
      intro d hd y v
      simp only [List.filterMap_cons, List.filterMap_nil, List.mem_cons, List.not_mem_nil, or_false] at hd
      rcases hd with rfl | rfl | rfl | rfl | rfl | rfl | rfl | rfl | rfl | rfl | rfl | rfl | rfl | rfl | rfl | rfl | rfl | rfl | rfl | rfl | rfl | rfl | rfl
      all_goals rfl
    case hloc =>
      intro j hj y y' W hk hx
      have hj' : j = 16 ∨ j = 21 ∨ j = 23 := by simpa [or_assoc] using hj
      rcases hj' with rfl | rfl | rfl
      · simp only [List.forall_mem_cons, List.not_mem_nil, false_imp_iff, implies_true, and_true] at hk
        show _
        simpa only [hk] using hx
      · simp only [List.forall_mem_cons, List.not_mem_nil, false_imp_iff, implies_true, and_true] at hk
        show _
        simpa only [hk] using hx
      · skip
        exact hx
    case hmono =>
      intro j hj hlast y W W' hg hx
      have hj' : j = 16 ∨ j = 21 ∨ j = 23 := by simpa [or_assoc] using hj
      rcases hj' with rfl | rfl | rfl
      · exact pass_g hg hx
      · exact pass_g hg hx
      · exact absurd hlast (by decide)
    case hdone =>
      intro y W hS hd
      have x23 : (fun (y : Nat → Value) (W : World) => Blk W w.heap.size 41 #[.int .i64 1, .int .i64 0, .int .i64 (1 + X28)]) y W := (hd 23 (by decide)).ex rfl
      obtain ⟨hb, hc, a, b, d, hr⟩ := hS
      have r0 := x23.cell 0
      have r1 := x23.cell 1
      have r2 := x23.cell 2
      go_wp2_with fail
      exact bodyPost_ret (v := .agg #[.int .i64 1, .int .i64 0, .int .i64 (1 + X28)]) (by simp [results, Tryd.results104, go_sem, r0, r1, r2]) rfl ⟨rfl, hb⟩
    case hstep =>
      refine StepsOk.cons (StepOk.known rfl fun y W hS hd K' hK => ?_) ?_
      · skip
        clear hd
        go_simp
        exact hK.out _ _ rfl (fun _ _ _ _ h => h) hS
      refine StepsOk.cons (StepOk.known rfl fun y W hS hd K' hK => ?_) ?_
      · skip
        have e8 : y 8 = .int .i64 W7 := (hd 0 rfl).val rfl rfl
        clear hd
        go_simp
        exact hK.out _ _ (by first | rfl | (simp only [e8]; done) | (simp only [e8]; rfl)) (fun _ _ _ _ h => h) hS
      refine StepsOk.cons (StepOk.known rfl fun y W hS hd K' hK => ?_) ?_
      · skip
        clear hd
        go_simp
        exact hK.out _ _ rfl (fun _ _ _ _ h => h) hS
      refine StepsOk.cons (StepOk.known rfl fun y W hS hd K' hK => ?_) ?_
      · skip
        clear hd
        have hc := hS.2.1
        go_simp
        exact hK.out _ _ rfl (fun _ _ _ _ h => h) hS
      refine StepsOk.cons (StepOk.known rfl fun y W hS hd K' hK => ?_) ?_
      · skip
        clear hd
        go_simp
        exact hK.out _ _ rfl (fun _ _ _ _ h => h) hS
      refine StepsOk.cons (StepOk.known rfl fun y W hS hd K' hK => ?_) ?_
      · skip
        have e12 : y 12 = .int .i64 J := (hd 4 rfl).val rfl rfl
        clear hd
        go_simp
        exact hK.out _ _ (by first | rfl | (simp only [e12]; done) | (simp only [e12]; rfl)) (fun _ _ _ _ h => h) hS
      refine StepsOk.cons (StepOk.known rfl fun y W hS hd K' hK => ?_) ?_
      · skip
        have e11 : y 11 = .slice A N c := (hd 3 rfl).val rfl rfl
        have e13 : y 13 = .int .i64 (J + 1) := (hd 5 rfl).val rfl rfl
        clear hd
        go_simp
        refine (c2.out _ hS.1).mono ?_
        rintro e W' ⟨rfl, rfl⟩
        go_wp2_with fail
        exact hK.out _ _ (by first | rfl | (simp only [e11, e13]; done) | (simp only [e11, e13]; rfl)) (fun _ _ _ _ h => h) hS
      refine StepsOk.cons (StepOk.known rfl fun y W hS hd K' hK => ?_) ?_
      · skip
        have e14 : y 14 = .int .i64 X4 := (hd 6 rfl).val rfl rfl
        clear hd
        go_simp
        exact hK.out _ _ (by first | rfl | (simp only [e14]; done) | (simp only [e14]; rfl)) (fun _ _ _ _ h => h) hS
      refine StepsOk.cons (StepOk.known rfl fun y W hS hd K' hK => ?_) ?_
      · skip
        have e15 : y 15 = .int .i64 (7 * X4) := (hd 7 rfl).val rfl rfl
        clear hd
        go_simp
        exact hK.out _ _ (by first | rfl | (simp only [e15]; done) | (simp only [e15]; rfl)) (fun _ _ _ _ h => h) hS
      refine StepsOk.cons (StepOk.known rfl fun y W hS hd K' hK => ?_) ?_
      · skip
        have e10 : y 10 = .int .i64 W7 := (hd 2 rfl).val rfl rfl
        have e16 : y 16 = .int .i64 (1 + 7 * X4) := (hd 8 rfl).val rfl rfl
        clear hd
        go_simp
        exact hK.out _ _ (by first | rfl | (simp only [e10, e16]; done) | (simp only [e10, e16]; rfl)) (fun _ _ _ _ h => h) hS
      refine StepsOk.cons (StepOk.known rfl fun y W hS hd K' hK => ?_) ?_
      · skip
        clear hd
        have hc := hS.2.1
        go_simp
        exact hK.out _ _ rfl (fun _ _ _ _ h => h) hS
      refine StepsOk.cons (StepOk.known rfl fun y W hS hd K' hK => ?_) ?_
      · skip
        clear hd
        go_simp
        exact hK.out _ _ rfl (fun _ _ _ _ h => h) hS
      refine StepsOk.cons (StepOk.known rfl fun y W hS hd K' hK => ?_) ?_
      · skip
        have e19 : y 19 = .int .i64 J := (hd 11 rfl).val rfl rfl
        clear hd
        go_simp
        exact hK.out _ _ (by first | rfl | (simp only [e19]; done) | (simp only [e19]; rfl)) (fun _ _ _ _ h => h) hS
      refine StepsOk.cons (StepOk.known rfl fun y W hS hd K' hK => ?_) ?_
      · skip
        have e14 : y 14 = .int .i64 X4 := (hd 6 rfl).val rfl rfl
        have e18 : y 18 = .slice A N c := (hd 10 rfl).val rfl rfl
        have e20 : y 20 = .int .i64 (J + 1) := (hd 12 rfl).val rfl rfl
        clear hd
        go_simp
        refine (c3.out _ hS.1).mono ?_
        rintro e W' ⟨rfl, rfl⟩
        go_wp2_with fail
        exact hK.out _ _ (by first | rfl | (simp only [e14, e18, e20]; done) | (simp only [e14, e18, e20]; rfl)) (fun _ _ _ _ h => h) hS
      refine StepsOk.cons (StepOk.known rfl fun y W hS hd K' hK => ?_) ?_
      · skip
        have e21 : y 21 = .int .i64 X28 := (hd 13 rfl).val rfl rfl
        clear hd
        go_simp
        exact hK.out _ _ (by first | rfl | (simp only [e21]; done) | (simp only [e21]; rfl)) (fun _ _ _ _ h => h) hS
      refine StepsOk.cons (StepOk.known rfl fun y W hS hd K' hK => ?_) ?_
      · skip
        have e22 : y 22 = .int .i64 (1 + X28) := (hd 14 rfl).val rfl rfl
        clear hd
        go_simp
        exact hK.out _ _ (by first | rfl | (simp only [e22]; done) | (simp only [e22]; rfl)) (fun _ _ _ _ h => h) hS
      refine StepsOk.cons (StepOk.other rfl fun y W hS hd K' hK => ?_) ?_
      · skip
        have e9 : y 9 = .agg #[.int .i64 2, .int .i64 W7, .int .i64 0] := (hd 1 rfl).val rfl rfl
        have e17 : y 17 = .agg #[.int .i64 3, .int .i64 W7, .int .i64 (1 + 7 * X4)] := (hd 9 rfl).val rfl rfl
        have e23 : y 23 = .agg #[.int .i64 1, .int .i64 0, .int .i64 (1 + X28)] := (hd 15 rfl).val rfl rfl
        clear hd
        obtain ⟨hb, hc, a, b, d, hr⟩ := hS
        go_simp
        exact hK.out _ _ _ (by first | rfl | (simp only [e9, e17, e23]; done) | (simp only [e9, e17, e23]; rfl)) (fun _ _ _ _ h => h.alloc _) ⟨hb.alloc hb.size _, (hS2 (hb.alloc hb.size _)), a, b, d, hr.alloc _⟩ (show ∃ g, _ = Value.slice (some ⟨g, 0, none⟩) 3 3 ∧ g ≠ w.heap.size ∧ Blk _ g 41 #[.int .i64 2, .int .i64 W7, .int .i64 0, .int .i64 3, .int .i64 W7, .int .i64 (1 + 7 * X4), .int .i64 1, .int .i64 0, .int .i64 (1 + X28)] from ⟨_, rfl, by have := hr.lt; omega, Blk.new W _ _⟩)
      refine StepsOk.cons (StepOk.known rfl fun y W hS hd K' hK => ?_) ?_
      · skip
        clear hd
        have hc := hS.2.1
        go_simp
        exact hK.out _ _ rfl (fun _ _ _ _ h => h) hS
      refine StepsOk.cons (StepOk.known rfl fun y W hS hd K' hK => ?_) ?_
      · skip
        clear hd
        go_simp
        exact hK.out _ _ rfl (fun _ _ _ _ h => h) hS
      refine StepsOk.cons (StepOk.known rfl fun y W hS hd K' hK => ?_) ?_
      · skip
        have e26 : y 26 = .int .i64 J := (hd 18 rfl).val rfl rfl
        clear hd
        go_simp
        exact hK.out _ _ (by first | rfl | (simp only [e26]; done) | (simp only [e26]; rfl)) (fun _ _ _ _ h => h) hS
      refine StepsOk.cons (StepOk.known rfl fun y W hS hd K' hK => ?_) ?_
      · skip
        have e21 : y 21 = .int .i64 X28 := (hd 13 rfl).val rfl rfl
        have e25 : y 25 = .slice A N c := (hd 17 rfl).val rfl rfl
        have e27 : y 27 = .int .i64 (J + 2) := (hd 19 rfl).val rfl rfl
        clear hd
        go_simp
        refine (c4.out _ hS.1).mono ?_
        rintro e W' ⟨rfl, rfl⟩
        go_wp2_with fail
        exact hK.out _ _ (by first | rfl | (simp only [e21, e25, e27]; done) | (simp only [e21, e25, e27]; rfl)) (fun _ _ _ _ h => h) hS
      refine StepsOk.cons (StepOk.other rfl fun y W hS hd K' hK => ?_) ?_
      · skip
        have x16 : (fun (y : Nat → Value) (W : World) => ∃ g, y 24 = .slice (some ⟨g, 0, none⟩) 3 3 ∧ g ≠ w.heap.size ∧ Blk W g 41 #[.int .i64 2, .int .i64 W7, .int .i64 0, .int .i64 3, .int .i64 W7, .int .i64 (1 + 7 * X4), .int .i64 1, .int .i64 0, .int .i64 (1 + X28)]) y W := (hd 16 rfl).ex rfl
        have e28 : y 28 = .int .i64 2 := (hd 20 rfl).val rfl rfl
        clear hd
        obtain ⟨g, h1, h2, h3⟩ := x16
        go_simp
        exact hK.out _ _ _ (by first | rfl | (simp only [e28, h1]; done) | (simp only [e28, h1]; rfl)) (fun _ _ _ _ h => h) hS (show ∃ g, _ = Value.pointer (some ⟨g, 6, none⟩) ∧ g ≠ w.heap.size ∧ Blk W g 41 #[.int .i64 2, .int .i64 W7, .int .i64 0, .int .i64 3, .int .i64 W7, .int .i64 (1 + 7 * X4), .int .i64 1, .int .i64 0, .int .i64 (1 + X28)] from ⟨g, rfl, h2, h3⟩)
      refine StepsOk.cons (StepOk.known rfl fun y W hS hd K' hK => ?_) ?_
      · skip
        have x21 : (fun (y : Nat → Value) (W : World) => ∃ g, y 29 = .pointer (some ⟨g, 6, none⟩) ∧ g ≠ w.heap.size ∧ Blk W g 41 #[.int .i64 2, .int .i64 W7, .int .i64 0, .int .i64 3, .int .i64 W7, .int .i64 (1 + 7 * X4), .int .i64 1, .int .i64 0, .int .i64 (1 + X28)]) y W := (hd 21 rfl).ex rfl
        clear hd
        obtain ⟨g, h1, h2, h3⟩ := x21
        have k0 := (h3.cell 6).trans rfl
        have k1 := (h3.cell 7).trans rfl
        have k2 := (h3.cell 8).trans rfl
        go_simp
        exact hK.out _ _ (by first | rfl | (simp only [h1]; done) | (simp only [h1]; rfl)) (fun _ _ _ _ h => h) hS
      refine StepsOk.cons (StepOk.other rfl fun y W hS hd K' hK => ?_) ?_
      · skip
        have e8 : y 8 = .int .i64 W7 := (hd 0 rfl).val rfl rfl
        have e9 : y 9 = .agg #[.int .i64 2, .int .i64 W7, .int .i64 0] := (hd 1 rfl).val rfl rfl
        have e10 : y 10 = .int .i64 W7 := (hd 2 rfl).val rfl rfl
        have e11 : y 11 = .slice A N c := (hd 3 rfl).val rfl rfl
        have e12 : y 12 = .int .i64 J := (hd 4 rfl).val rfl rfl
        have e13 : y 13 = .int .i64 (J + 1) := (hd 5 rfl).val rfl rfl
        have e14 : y 14 = .int .i64 X4 := (hd 6 rfl).val rfl rfl
        have e15 : y 15 = .int .i64 (7 * X4) := (hd 7 rfl).val rfl rfl
        have e16 : y 16 = .int .i64 (1 + 7 * X4) := (hd 8 rfl).val rfl rfl
        have e17 : y 17 = .agg #[.int .i64 3, .int .i64 W7, .int .i64 (1 + 7 * X4)] := (hd 9 rfl).val rfl rfl
        have e18 : y 18 = .slice A N c := (hd 10 rfl).val rfl rfl
        have e19 : y 19 = .int .i64 J := (hd 11 rfl).val rfl rfl
        have e20 : y 20 = .int .i64 (J + 1) := (hd 12 rfl).val rfl rfl
        have e21 : y 21 = .int .i64 X28 := (hd 13 rfl).val rfl rfl
        have e22 : y 22 = .int .i64 (1 + X28) := (hd 14 rfl).val rfl rfl
        have e23 : y 23 = .agg #[.int .i64 1, .int .i64 0, .int .i64 (1 + X28)] := (hd 15 rfl).val rfl rfl
        have x16 : (fun (y : Nat → Value) (W : World) => ∃ g, y 24 = .slice (some ⟨g, 0, none⟩) 3 3 ∧ g ≠ w.heap.size ∧ Blk W g 41 #[.int .i64 2, .int .i64 W7, .int .i64 0, .int .i64 3, .int .i64 W7, .int .i64 (1 + 7 * X4), .int .i64 1, .int .i64 0, .int .i64 (1 + X28)]) y W := (hd 16 rfl).ex rfl
        have e25 : y 25 = .slice A N c := (hd 17 rfl).val rfl rfl
        have e26 : y 26 = .int .i64 J := (hd 18 rfl).val rfl rfl
        have e27 : y 27 = .int .i64 (J + 2) := (hd 19 rfl).val rfl rfl
        have e28 : y 28 = .int .i64 2 := (hd 20 rfl).val rfl rfl
        have x21 : (fun (y : Nat → Value) (W : World) => ∃ g, y 29 = .pointer (some ⟨g, 6, none⟩) ∧ g ≠ w.heap.size ∧ Blk W g 41 #[.int .i64 2, .int .i64 W7, .int .i64 0, .int .i64 3, .int .i64 W7, .int .i64 (1 + 7 * X4), .int .i64 1, .int .i64 0, .int .i64 (1 + X28)]) y W := (hd 21 rfl).ex rfl
        have e30 : y 30 = .agg #[.int .i64 1, .int .i64 0, .int .i64 (1 + X28)] := (hd 22 rfl).val rfl rfl
        clear hd
        obtain ⟨hb, hc, a, b, d, hr⟩ := hS
        have k0 := (hr.cell 0).trans rfl
        have k1 := (hr.cell 1).trans rfl
        have k2 := (hr.cell 2).trans rfl
        have f0 := hr.frozen 0
        have f1 := hr.frozen 1
        have f2 := hr.frozen 2
        have hr3 := ((hr.set_ 0 (.int .i64 1)).set_ 1 (.int .i64 0)).set_ 2 (.int .i64 (1 + X28))
        have hb3 := ((hb.setCell (p := ⟨w.heap.size, 0, none⟩) (Nat.le_refl _) (.int .i64 1)).setCell (p := ⟨w.heap.size, 1, none⟩) (Nat.le_refl _) (.int .i64 0)).setCell (p := ⟨w.heap.size, 2, none⟩) (Nat.le_refl _) (.int .i64 (1 + X28))
        go_simp
        exact hK.out undef _ _ (by first | rfl | (simp only [e8, e9, e10, e11, e12, e13, e14, e15, e16, e17, e18, e19, e20, e21, e22, e23, e25, e26, e27, e28, e30]; done) | (simp only [e8, e9, e10, e11, e12, e13, e14, e15, e16, e17, e18, e19, e20, e21, e22, e23, e25, e26, e27, e28, e30]; rfl)) (fun g _ _ hg h => ((h.far hg _).far hg _).far hg _) ⟨hb3, hS2 hb3, _, _, _, hr3⟩ hr3
      exact StepsOk.nil
end Go.Proofs.YtlideagcmhlkeaaDoor
