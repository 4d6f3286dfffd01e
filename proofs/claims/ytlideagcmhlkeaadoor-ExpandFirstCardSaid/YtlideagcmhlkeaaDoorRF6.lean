/- Texts of one proof, one behind the other: Fmt21f; Fmt21h; Plain21m; Plain23; Era23; Mad17a; Mad17b. -/
import Derived.Test.YtlideagcmhlkeaaDoorRF5
import Derived.Deep.RegionHeld3
import Derived.Deep.CutBlock
import Derived.BigRegion
import Derived.IntWalk
import Derived.Lib.ItoaNum
import Derived.Lib.LaidTab
import Derived.Lib.AppendIntMem
import Derived.Deep.DeepCutAuto
import Derived.OpenShut
import Derived.Deep.RegionWith
import Derived.Deep.RegionLaw
import Derived.BigQuiet

/- The walks of the abbreviations of FORMATs (chapter 21): format.Abbr and the reference's. -/
namespace Go.Proofs.YtlideagcmhlkeaaDoor
open Go.RowKit Go.Lib
set_option linter.unusedVariables false

end Go.Proofs.YtlideagcmhlkeaaDoor

/- The walk of format.Check (chapter 21). -/
namespace Go.Proofs.YtlideagcmhlkeaaDoor
open Go.RowKit Go.Lib
set_option linter.unusedVariables false

end Go.Proofs.YtlideagcmhlkeaaDoor

/- The plain law of FORMATs of sets that are made by numbers (chapter 21): %z, what stands for it, letters; no program in sight. -/
namespace Go.Proofs.YtlideagcmhlkeaaDoor
set_option linter.unusedVariables false

namespace P21
theorem ofrom_y {y : Int} (hy : y ≠ 0) : ∀ l : List Int, (∀ x ∈ l, x = 0 ∨ x = y) → P20.otherFrom y l = (y, true)
  | [], _ => by rw [P20.otherFrom, decide_eq_true hy]
  | a :: l, h => by
    have ih := ofrom_y hy l fun x hx => h x (List.mem_cons_of_mem _ hx)
    rw [P20.otherFrom]
    rcases h a (List.mem_cons_self ..) with rfl | rfl
    · rw [if_pos rfl, ih]
    · rw [if_neg hy, if_neg (by simp), ih]
theorem other_good {y : Int} (hy : y ≠ 0) : ∀ l : List Int, (∀ x ∈ l, x = 0 ∨ x = y) → y ∈ l → P20.other l = (y, true)
  | [], _, hm => by cases hm
  | a :: l, h, hm => by
    have hl : ∀ x ∈ l, x = 0 ∨ x = y := fun x hx => h x (List.mem_cons_of_mem _ hx)
    unfold P20.other
    rw [P20.otherFrom]
    by_cases h0 : a = 0
    · rw [if_pos h0]
      refine other_good hy l hl ?_
      rcases List.mem_cons.1 hm with h1 | h1
      · exact absurd (h1.trans h0) hy
      · exact h1
    · rw [if_neg h0, if_neg (by simp)]
      rcases h a (List.mem_cons_self ..) with h1 | rfl
      · exact absurd h1 h0
      · exact ofrom_y hy l hl
/-- what stands for %z -/
def xt (off y : Int) : List UInt8 := P20.text off ++ 47 :: P20.text (off + y)
/-- offset and save within a day, and with each other -/
structure Fits (off y : Int) : Prop where
  o0 : -86399 ≤ off
  o1 : off ≤ 86399
  s0 : -86399 ≤ off + y
  s1 : off + y ≤ 86399
section
variable {off y : Int} (h : Fits off y)
include h
theorem Fits.n1 : num (P20.text off) = true := num_of_text h.o0 h.o1
theorem Fits.n2 : num (P20.text (off + y)) = true := num_of_text h.s0 h.s1
theorem xt_slash : slash (xt off y) = (P20.text off, P20.text (off + y), true) := slash_at fun c hc q => by
  rw [q] at hc; have := num_mem h.n1 _ hc; revert this; decide
theorem xt_kind : kind (xt off y) = 5 := kind5s (xt_slash h) h.n1 h.n2
theorem xt_two : two (xt off y) = true := by unfold two; rw [xt_slash h, xt_kind h]; rfl
theorem xt_exp {l : List Int} (s : Int) (hl : P20.other l = (y, true)) : P20.expansion 2 off s l = (xt off y, 0) := by
  unfold P20.expansion
  rw [if_neg (by decide), if_neg (by decide), if_pos rfl, hl, if_pos rfl]
  unfold P20.both
  rw [if_neg (by rintro (q | q); exact P20.text_ne h.o0 h.o1 q; exact P20.text_ne h.s0 h.s1 q)]
  rfl
theorem xt_abbr (s : Int) (lt : List UInt8) : abbrv (xt off y) off s lt = (if s = 0 then P20.text off else P20.text (off + y), 0) := by
  unfold abbrv
  rw [if_pos (xt_two h), xt_slash h]
  by_cases h0 : s = 0 <;> simp [h0]
theorem z_abbr {s : Int} (hs : s = 0 ∨ s = y) (lt : List UInt8) : abbrv [37, 122] off s lt = (if s = 0 then P20.text off else P20.text (off + y), 0) := by
  have ht : two [37, 122] = false := by decide +kernel
  unfold abbrv
  rw [if_neg (by rw [ht]; decide), if_neg (by rw [kind_z]; decide), if_pos kind_z]
  by_cases h0 : s = 0
  · subst h0
    rw [if_pos rfl, Int.add_zero, out, decide_eq_true (P20.text_ne h.o0 h.o1)]; rfl
  · rw [hs.resolve_left h0, if_neg (by rw [← hs.resolve_left h0]; exact h0), out, decide_eq_true (P20.text_ne h.s0 h.s1)]; rfl
end
end P21
theorem P17.Good.other {D : List Int} {nm : ByteArray} {L : List RV} (h : P17.Good D nm L) : P20.other (svs L) = (P17.sv D, true) := by
  refine P21.other_good (P17.sv_ne D) _ (fun x hx => ?_) ?_
  · unfold svs at hx
    obtain ⟨r, hr, rfl⟩ := List.mem_map.1 hx
    exact h.saves r hr
  · obtain ⟨r, hr, e⟩ := h.has
    exact List.mem_map.2 ⟨r, hr, e⟩
theorem P17.Good.sv {D : List Int} {nm : ByteArray} {L : List RV} (h : P17.Good D nm L) : ∀ x ∈ svs L, x = 0 ∨ x = P17.sv D := fun x hx => by
  unfold svs at hx
  obtain ⟨r, hr, rfl⟩ := List.mem_map.1 hx
  exact h.saves r hr
end Go.Proofs.YtlideagcmhlkeaaDoor

/- Sources of layer 23, made of numbers: what Expand and Contract answer there (the plain law of chapter 30). No function of the program. -/
namespace Go.Proofs.YtlideagcmhlkeaaDoor
set_option linter.unusedVariables false

/-- the FORMATs of layer 23 -/
def isFmt23 (b : ByteArray) : Prop := b = ⟨#[76, 77, 84]⟩ ∨ b = ⟨#[71, 77, 84, 47, 66, 83, 84]⟩ ∨ b = ⟨#[69, 37, 115, 83, 84]⟩ ∨ b = ⟨#[37, 122]⟩ ∨ b = ⟨#[67, 69, 84, 47, 67, 69, 83, 84]⟩ ∨ b = ⟨#[87, 83, 84]⟩
/-- an era of layer 23, whose set has one save other than 0 -/
structure GoodE (R : List RV) (e : EV) : Prop where
  off : -42300 ≤ e.off ∧ e.off ≤ 42300
  kind : e.kind = 0 ∨ e.kind = 1 ∨ e.kind = 2
  fmt : isFmt23 e.fmt
  save : 0 ≤ e.save ∧ e.save ≤ 7200
  set : e.kind = 2 → ∃ y, (y = 3600 ∨ y = 1800 ∨ y = 7200 ∨ y = -3600) ∧ P20.other (svs (ofSet R e.set)) = (y, true)
/-- FORMATs of layer 23: %z, or one that is no number -/
theorem fmt23_kind {b : ByteArray} (h : isFmt23 b) : b = ⟨#[37, 122]⟩ ∨ (P21.kind (P4.bl b) ≠ 4 ∧ P21.kind (P4.bl b) ≠ 5 ∧ b ≠ ⟨#[37, 122]⟩) := by
  rcases h with rfl | rfl | rfl | rfl | rfl | rfl
  · exact .inr (by decide +kernel)
  · exact .inr (by decide +kernel)
  · exact .inr (by decide +kernel)
  · exact .inl rfl
  · exact .inr (by decide +kernel)
  · exact .inr (by decide +kernel)
theorem fmt23_size {b : ByteArray} (h : isFmt23 b) : b.size ≤ 8 := by
  rcases h with rfl | rfl | rfl | rfl | rfl | rfl <;> decide
theorem abbrv_num {o : Int} (h0 : -86399 ≤ o) (h1 : o ≤ 86399) (off s : Int) (lt : List UInt8) : P21.abbrv (P20.text o) off s lt = (P20.text o, 0) := by
  have hn := P21.num_of_text h0 h1
  have hk := P21.kind5 hn
  have ht : P21.two (P20.text o) = false := by
    have hs : (P21.slash (P20.text o)).2.2 = false := P21.slash_no fun c hc q => by
      rw [q] at hc; have := P21.num_mem hn _ hc; revert this; decide
    rw [P21.two_eq, hs]; rfl
  unfold P21.abbrv
  rw [if_neg (by rw [ht]; decide), if_neg (by rw [hk]; decide), if_neg (by rw [hk]; decide), if_neg (by rw [hk]; decide)]
theorem abbrv_z {o s : Int} (h0 : -86399 ≤ o + s) (h1 : o + s ≤ 86399) (lt : List UInt8) : P21.abbrv [37, 122] o s lt = (P20.text (o + s), 0) := by
  have ht : P21.two [37, 122] = false := by decide +kernel
  unfold P21.abbrv
  rw [if_neg (by rw [ht]; decide), if_neg (by rw [P21.kind_z]; decide), if_pos P21.kind_z, P21.out, decide_eq_true (P20.text_ne h0 h1)]
  rfl
/-- the saves that are asked of an era -/
def saves23 (R : List RV) (e : EV) : List Int := if e.kind = 2 then [0, (P20.other (svs (ofSet R e.set))).1] else if e.kind = 1 then [e.save] else [0]
theorem GoodE.num {R : List RV} {e : EV} (h : GoodE R e) : ∃ l : List UInt8, num30 R e = (str l, 0) ∧ P21.kind l = 5 ∧ ∀ s ∈ saves23 R e, ∀ lt, P21.abbrv [37, 122] e.off s lt = P21.abbrv l e.off s lt := by
  have h1 := h.off; have h2 := h.save
  rcases h.kind with k | k | k
  · refine ⟨P20.text e.off, ?_, P21.kind5 (P21.num_of_text (by omega) (by omega)), fun s hs lt => ?_⟩
    · unfold num30
      rw [k]
      have : P20.expansion 0 e.off e.save (svs (if (0 : Int) = 2 then ofSet R e.set else [])) = (P20.text e.off, 0) := by
        unfold P20.expansion P20.one
        rw [if_pos rfl, if_neg (P20.text_ne (by omega) (by omega))]
      rw [this]
    · unfold saves23 at hs
      rw [if_neg (by omega), if_neg (by omega)] at hs
      obtain rfl := List.mem_singleton.1 hs
      rw [abbrv_num (by omega) (by omega), abbrv_z (by omega) (by omega), Int.add_zero]
  · refine ⟨P20.text (e.off + e.save), ?_, P21.kind5 (P21.num_of_text (by omega) (by omega)), fun s hs lt => ?_⟩
    · unfold num30
      rw [k]
      have : P20.expansion 1 e.off e.save (svs (if (1 : Int) = 2 then ofSet R e.set else [])) = (P20.text (e.off + e.save), 0) := by
        unfold P20.expansion P20.one
        rw [if_neg (by decide), if_pos rfl, if_neg (P20.text_ne (by omega) (by omega))]
      rw [this]
    · unfold saves23 at hs
      rw [if_neg (by omega), if_pos k] at hs
      obtain rfl := List.mem_singleton.1 hs
      rw [abbrv_num (by omega) (by omega), abbrv_z (by omega) (by omega)]
  · obtain ⟨y, hy, ho⟩ := h.set k
    have hF : P21.Fits e.off y := ⟨by omega, by omega, by omega, by omega⟩
    refine ⟨P21.xt e.off y, ?_, P21.xt_kind hF, fun s hs lt => ?_⟩
    · unfold num30
      rw [k, if_pos rfl, P21.xt_exp hF e.save ho]
    · unfold saves23 at hs
      rw [if_pos k, ho] at hs
      have hs2 : s = 0 ∨ s = y := by simpa using hs
      rw [P21.z_abbr hF hs2, P21.xt_abbr hF]
/-- what Expand makes of an era of layer 23 -/
theorem GoodE.ex {R : List RV} {e : EV} (h : GoodE R e) : (exF R e).2 = 0 ∧ P21.kind (P4.bl (exF R e).1) ≠ 4 ∧ (e.fmt ≠ ⟨#[37, 122]⟩ → (exF R e).1 = e.fmt) ∧ (e.fmt = ⟨#[37, 122]⟩ → exF R e = num30 R e ∧ P21.kind (P4.bl (exF R e).1) = 5) := by
  obtain ⟨l, hn, hk, _⟩ := h.num
  rcases fmt23_kind h.fmt with hz | ⟨k4, k5, hz⟩
  · have he : exF R e = num30 R e := by unfold exF; rw [if_pos hz]
    refine ⟨by rw [he, hn], by rw [he, hn]; show P21.kind l ≠ 4; rw [hk]; decide, fun q => absurd hz q, fun _ => ⟨he, ?_⟩⟩
    rw [he, hn]
    exact hk
  · have he : exF R e = (e.fmt, 0) := by unfold exF; rw [if_neg hz]
    exact ⟨by rw [he], by rw [he]; exact k4, fun _ => by rw [he], fun q => absurd q hz⟩
theorem GoodE.co0 {R : List RV} {e : EV} (h : GoodE R e) : coF R e = (e.fmt, 0) := by
  unfold coF
  rw [if_neg ?_]
  rcases fmt23_kind h.fmt with hz | ⟨k4, k5, hz⟩
  · rw [hz]; decide +kernel
  · exact k5
end Go.Proofs.YtlideagcmhlkeaaDoor

/- An era of layer 23, made of numbers: FORMAT, end, and the era. -/
namespace Go.Proofs.YtlideagcmhlkeaaDoor
open Go.RowKit Go.Lib
set_option linter.unusedVariables false
set_option linter.unusedSimpArgs false

/-- an era by numbers -/
structure E23 where
  kind : Int
  set : Int
  fmt : Int
  years : Int
  day : Int
  base : Int
  off : Int
  at_ : Int
def E23.cells (d : E23) : List Value := [.int .u8 d.kind, .int .u8 d.set, .int .u8 d.fmt, .int .u8 d.years, .int .u8 d.day, .int .u8 d.base, .int .i8 d.off, .int .i8 d.at_]
structure E23.ok (d : E23) : Prop where
  k : 0 ≤ d.kind ∧ d.kind ≤ 255
  s : 0 ≤ d.set ∧ d.set ≤ 255
  f : 0 ≤ d.fmt ∧ d.fmt ≤ 255
  y : 0 ≤ d.years ∧ d.years ≤ 255
  dy : 0 ≤ d.day ∧ d.day ≤ 255
  b : 0 ≤ d.base ∧ d.base ≤ 255
  o : -128 ≤ d.off ∧ d.off ≤ 127
  a : -128 ≤ d.at_ ∧ d.at_ ≤ 127
/-- the name of a set -/
def rn (k : Nat) : ByteArray := str [82, UInt8.ofNat (48 + k)]
/-- an era that is right but for what its set says -/
structure GE23 (N : Nat) (e : EV) : Prop where
  off : -42300 ≤ e.off ∧ e.off ≤ 42300
  kind : e.kind = 0 ∨ e.kind = 1 ∨ e.kind = 2
  fmt : isFmt23 e.fmt
  save : 0 ≤ e.save ∧ e.save ≤ 7200
  set : e.kind = 2 → ∃ k, k < N ∧ e.set = rn k
/-- what a step of the region keeps: boxes of eras stay boxes of eras -/
def GE (W W' : World) : Prop := ∀ g, (∃ v0 v1 v2 v3 v4 v5 v6 v7 v8 v9 v10 v11 v12, Blk W g 47 #[v0, v1, v2, v3, v4, v5, v6, v7, v8, v9, v10, v11, v12]) → ∃ v0 v1 v2 v3 v4 v5 v6 v7 v8 v9 v10 v11 v12, Blk W' g 47 #[v0, v1, v2, v3, v4, v5, v6, v7, v8, v9, v10, v11, v12]
theorem GE.refl (W : World) : GE W W := fun _ h => h
theorem GE.below {W W' : World} (h : Below W.heap.size W W') : GE W W' := fun g ⟨v0, v1, v2, v3, v4, v5, v6, v7, v8, v9, v10, v11, v12, hb⟩ => ⟨v0, v1, v2, v3, v4, v5, v6, v7, v8, v9, v10, v11, v12, hb.below h hb.lt⟩
theorem GE.alloc (W : World) (ob : Obj) : GE W (W.alloc ob) := GE.below ((Below.refl _ W).alloc (Nat.le_refl _) ob)
theorem GE.trans {A B C : World} (h : GE A B) (k : GE B C) : GE A C := fun g hb => k g (h g hb)
theorem GE.set_ {W : World} {g : Nat} {v0 v1 v2 v3 v4 v5 v6 v7 v8 v9 v10 v11 v12 : Value} (hb : Blk W g 47 #[v0, v1, v2, v3, v4, v5, v6, v7, v8, v9, v10, v11, v12]) (z : Nat) (u : Value) : GE W (W.setCell ⟨g, z, none⟩ u) := by
  intro g' ⟨v0', v1', v2', v3', v4', v5', v6', v7', v8', v9', v10', v11', v12', hb'⟩
  by_cases q : g' = g
  · subst q
    have := hb.set_ z u
    match z with
    | 0 | 1 | 2 | 3 | 4 | 5 | 6 | 7 | 8 | 9 | 10 | 11 | 12 => exact ⟨_, _, _, _, _, _, _, _, _, _, _, _, _, this⟩
    | z + 13 =>
      rw [Array.setIfInBounds, dif_neg (by simp)] at this
      exact ⟨_, _, _, _, _, _, _, _, _, _, _, _, _, this⟩
  · exact ⟨v0', v1', v2', v3', v4', v5', v6', v7', v8', v9', v10', v11', v12', hb'.far q u⟩
theorem gPow23 : Tryd.prog.globalNamed "internal/strconv.uint64pow10" = some 2 := by kernel_rfl
theorem var_below23 {P : Program} {B g : Nat} {W W' : World} {n : String} {cs : Array Value} (h : Below B W W') (hg : P.globalNamed n = some g) (hgB : g < B) (hv : W.var? P n = some cs) : W'.var? P n = some cs := by
  unfold World.var? at hv ⊢
  simp only [hg, Option.bind_some] at hv ⊢
  rw [h.block g hgB]
  exact hv
/-- the table of powers of ten -/
structure VarsP (w : World) : Prop where
  pow : Lib.TabIs Tryd.prog w "internal/strconv.uint64pow10" .u64 Lib.pow10Tab
  big : 2 < w.heap.size
theorem VarsP.below {w w' : World} (h : VarsP w) (hb : Below w.heap.size w w') : VarsP w' := ⟨var_below23 hb gPow23 h.big h.pow, Nat.lt_of_lt_of_le h.big hb.size⟩
theorem dec_one : ∀ k : Nat, k < 10 → Lib.decDigits k = [UInt8.ofNat (48 + k)] := by decide +kernel
theorem itoa23 (k : Nat) (i : Int) (hi : i = k) (hk : k < 10) (w : World) (hv : VarsP w) :
    Calls Tryd.prog 45 #[.int .i64 i] w fun e w' => e = .returned (.string (str [UInt8.ofNat (48 + k)])) ∧ Below w.heap.size w w' := by
  subst hi
  refine (Tryd.strconv_Itoa k (by omega) (by omega) w hv.pow).mono ?_
  rintro e w' ⟨rfl, m, os, rfl⟩
  refine ⟨by simp only [Lib.itoa]; rw [if_neg (by omega), show ((k : Int)).toNat = k from rfl, dec_one k hk]; rfl, Lib.below_grow _ _ (Nat.le_refl _) _ _⟩
set_option maxRecDepth 100000 in
set_option maxHeartbeats 4000000 in
theorem format23_any (n : Int) (w : World) (hn : 0 ≤ n ∧ n ≤ 255) :
    Calls Tryd.prog 82 #[.int .u8 n] w fun e w' => ∃ S, e = .returned (.string S) ∧ isFmt23 S ∧ Below w.heap.size w w' := by
  obtain ⟨K, hK, hK6⟩ : ∃ K : Nat, n.tmod 6 = (K : Int) ∧ K < 6 := ⟨(n % 6).toNat, by rw [Int.tmod_eq_emod_of_nonneg hn.1]; omega, by omega⟩
  have hk2 : (K : Int) < 6 := by omega
  have hn0 := hn.1; have hn1 := hn.2
  clear hn
  have hb := (Below.refl w.heap.size w).alloc (Nat.le_refl _) (.cells #[.string ⟨#[76, 77, 84]⟩, .string ⟨#[71, 77, 84, 47, 66, 83, 84]⟩, .string ⟨#[69, 37, 115, 83, 84]⟩, .string ⟨#[37, 122]⟩, .string ⟨#[67, 69, 84, 47, 67, 69, 83, 84]⟩, .string ⟨#[87, 83, 84]⟩] 9)
  have hB := Blk.new w 9 #[.string ⟨#[76, 77, 84]⟩, .string ⟨#[71, 77, 84, 47, 66, 83, 84]⟩, .string ⟨#[69, 37, 115, 83, 84]⟩, .string ⟨#[37, 122]⟩, .string ⟨#[67, 69, 84, 47, 67, 69, 83, 84]⟩, .string ⟨#[87, 83, 84]⟩]
  obtain ⟨S, hS, hf⟩ : ∃ S, (#[.string ⟨#[76, 77, 84]⟩, .string ⟨#[71, 77, 84, 47, 66, 83, 84]⟩, .string ⟨#[69, 37, 115, 83, 84]⟩, .string ⟨#[37, 122]⟩, .string ⟨#[67, 69, 84, 47, 67, 69, 83, 84]⟩, .string ⟨#[87, 83, 84]⟩] : Array Value)[K]? = some (.string S) ∧ isFmt23 S := by
    unfold isFmt23
    match K, hK6 with
    | 0, _ => exact ⟨_, rfl, .inl rfl⟩
    | 1, _ => exact ⟨_, rfl, .inr (.inl rfl)⟩
    | 2, _ => exact ⟨_, rfl, .inr (.inr (.inl rfl))⟩
    | 3, _ => exact ⟨_, rfl, .inr (.inr (.inr (.inl rfl)))⟩
    | 4, _ => exact ⟨_, rfl, .inr (.inr (.inr (.inr (.inl rfl))))⟩
    | 5, _ => exact ⟨_, rfl, .inr (.inr (.inr (.inr (.inr rfl))))⟩
  have c0 := (hB.cell K).trans hS
  have HB := Lib.hid hb; have HF := Lib.hid hf
  clear hb hB hS hf
  go_enter Tryd.func82, Tryd.ntmps82
  go_wp2_with fail
  go_ret
  exact ⟨S, rfl, HF.out, HB.out⟩
set_option maxRecDepth 100000 in
set_option maxHeartbeats 4000000 in
theorem until23_any (y m d : Int) (w : World) :
    Calls Tryd.prog 83 #[.int .i64 y, .int .i64 m, .int .i64 d] w fun e w' => e = .returned (.agg #[.bool true, .int .i64 y, .int .i64 m, .int .i64 1, .int .i64 0, .int .i64 d, .int .i64 0, .int .i64 0]) ∧ Below w.heap.size w w' := by
  go_enter Tryd.func83, Tryd.ntmps83
  go_wp2_with fail
  refine bodyPost_ret (v := .agg #[.bool true, .int .i64 y, .int .i64 m, .int .i64 1, .int .i64 0, .int .i64 d, .int .i64 0, .int .i64 0]) (by simp [results, Tryd.results83, go_sem]) rfl ?_
  exact ⟨rfl, (Below.refl _ _).alloc (Nat.le_refl _) _⟩
/-- the numbers of an era -/
theorem nums23 (d : E23) (N : Nat) (hd : d.ok) (hN : 1 ≤ N ∧ N ≤ 3) : ∃ (O K S4 D20 D7 A24 B3 : Int) (k : Nat), (d.off.tmod 48 = O ∧ d.kind.tmod 3 = K ∧ d.set.tmod 4 = S4 ∧ d.day.tmod 20 = D20 ∧ d.day.tmod 7 = D7 ∧ d.at_.tmod 24 = A24 ∧ d.base.tmod 3 = B3 ∧ d.set.tmod N = (k : Int)) ∧
    (-48 < O ∧ O < 48) ∧ (K = 0 ∨ K = 1 ∨ K = 2) ∧ (0 ≤ S4 ∧ S4 ≤ 3) ∧ (0 ≤ D20 ∧ D20 ≤ 19) ∧ (0 ≤ D7 ∧ D7 ≤ 6) ∧ (-24 < A24 ∧ A24 < 24) ∧ (0 ≤ B3 ∧ B3 ≤ 2) ∧ k < N := by
  have f : ∀ (x m : Int), 0 ≤ x → 0 < m → 0 ≤ x.tmod m ∧ x.tmod m < m := fun x m h0 h1 => by
    rw [Int.tmod_eq_emod_of_nonneg h0]
    exact ⟨Int.emod_nonneg _ (by omega), Int.emod_lt_of_pos _ h1⟩
  have g : ∀ (m z : Int), 0 < z → -z < m.tmod z ∧ m.tmod z < z := fun m z h => ⟨Int.lt_tmod_of_pos m h, Int.tmod_lt_of_pos m h⟩
  have a1 : ∀ x : Int, 0 ≤ x ∧ x < 3 → x = 0 ∨ x = 1 ∨ x = 2 := fun x h => by omega
  have a2 : ∀ (x m : Int), 0 ≤ x ∧ x < m + 1 → 0 ≤ x ∧ x ≤ m := fun x m h => by omega
  have a3 : ∀ x : Int, 0 ≤ x ∧ x < N → x = (x.toNat : Int) ∧ x.toNat < N := fun x h => by omega
  have hk := a3 _ (f d.set N hd.s.1 (by omega))
  exact ⟨d.off.tmod 48, d.kind.tmod 3, d.set.tmod 4, d.day.tmod 20, d.day.tmod 7, d.at_.tmod 24, d.base.tmod 3, (d.set.tmod N).toNat, ⟨rfl, rfl, rfl, rfl, rfl, rfl, rfl, hk.1⟩, g _ _ (by decide), a1 _ (f _ _ hd.k.1 (by decide)), a2 _ 3 (f _ _ hd.s.1 (by decide)), a2 _ 19 (f _ _ hd.dy.1 (by decide)), a2 _ 6 (f _ _ hd.dy.1 (by decide)), g _ _ (by decide), a2 _ 2 (f _ _ hd.b.1 (by decide)), hk.2⟩
end Go.Proofs.YtlideagcmhlkeaaDoor

/- The walks of the numbers and times of a draft (chapter 17). -/
namespace Go.Proofs.YtlideagcmhlkeaaDoor
open Go.RowKit Go.Lib
set_option linter.unusedVariables false

/-- the bytes of a draft -/
structure Dr (w : World) (A : Option Addr) (D : List Int) : Prop where
  len : D.length ≤ maxLen
  cells : CellsIn 1 u8Cell w A D
  bytes : ∀ n ∈ D, 0 ≤ n ∧ n ≤ 255
theorem Dr.below {w w' : World} {A : Option Addr} {D : List Int} (h : Dr w A D) (hb : Below w.heap.size w w') : Dr w' A D := ⟨h.len, h.cells.below hb, h.bytes⟩
theorem Dr.alloc {w : World} {A : Option Addr} {D : List Int} (h : Dr w A D) (ob : Obj) : Dr (w.alloc ob) A D := h.below ((Below.refl _ _).alloc (Nat.le_refl _) ob)
theorem at_zero {D : List Int} (h : D.length = 0) (i m : Nat) : P17.at_ D i m = 0 := by unfold P17.at_; rw [if_pos h]
theorem at_pos {D : List Int} {n : Int} {i : Nat} (h : D[i % D.length]? = some n) (m : Nat) : P17.at_ D i m = n.toNat % m := by
  have h0 : 0 < D.length := Nat.lt_of_le_of_lt (Nat.zero_le _) (List.getElem?_eq_some_iff.mp h).1
  unfold P17.at_; rw [if_neg (by omega), h]; rfl
set_option maxRecDepth 100000 in
set_option maxHeartbeats 8000000 in
theorem at17_any (A : Option Addr) (c : Nat) (D : List Int) (i m : Nat) (w : World) (hm : 1 ≤ m ∧ m ≤ 1000) (hi : i ≤ 1000) (hD : Dr w A D) :
    Calls Tryd.prog 78 #[.slice A D.length c, .int .i64 (i : Int), .int .i64 (m : Int)] w fun e w' => e = .returned (.int .i64 (P17.at_ D i m : Int)) ∧ w' = w := by
  obtain ⟨hl, hF, hG⟩ := hD
  unfold maxLen at hl
  have hli : (D.length : Int) ≤ 9223372036854775807 := by omega
  obtain ⟨m1, m2⟩ := hm
  have hm0 : ¬ ((m : Int) = 0) := by omega
  have hi2 : (i : Int) ≤ 1000 := by omega
  rcases Nat.eq_zero_or_pos D.length with h0 | h0
  · rw [at_zero h0, h0]
    clear hF hG hl hli h0
    go_enter Tryd.func78, Tryd.ntmps78
    go_wp2_with fail
    go_ret
    exact ⟨rfl, rfl⟩
  · have hjl : i % D.length < D.length := Nat.mod_lt _ h0
    obtain ⟨n, hn⟩ : ∃ n, D[i % D.length]? = some n := ⟨_, List.getElem?_eq_getElem hjl⟩
    rw [at_pos hn]
    obtain ⟨b, o, rfl, hbl, hcc⟩ := hF (i % D.length) n hn
    have c0 : w.cell? ⟨b, o + i % D.length, none⟩ = some (.int .u8 n) := by
      have q := hcc 0 _ rfl
      rwa [Nat.mul_one, Nat.add_zero] at q
    obtain ⟨n0, n255⟩ := hG n (List.mem_of_getElem? hn)
    have eR : n.tmod (m : Int) = ((n.toNat % m : Nat) : Int) := by
      rw [Int.tmod_eq_emod_of_nonneg n0]
      have : n = (n.toNat : Int) := by omega
      rw [this]; exact (Int.natCast_emod _ _).symm
    have hrm : ((n.toNat % m : Nat) : Int) ≤ 255 := by
      have := Nat.mod_le n.toNat m
      omega
    have eJ : (i : Int).tmod (D.length : Int) = ((i % D.length : Nat) : Int) := by rw [Int.tmod_eq_emod_of_nonneg (by omega)]; exact (Int.natCast_emod i D.length).symm
    have hj2 : ((i % D.length : Nat) : Int) < (D.length : Int) := by omega
    have b0 : ((D.length : Int) == 0) = false := by rw [beq_eq_false_iff_ne]; omega
    have d0 : ¬ ((D.length : Int) = 0) := by omega
    clear hcc hn hG hF hl
    generalize n.toNat % m = r at *
    generalize i % D.length = j at *
    generalize D.length = N at *
    go_enter Tryd.func78, Tryd.ntmps78
    go_wp2_with fail
    go_ret
    exact ⟨rfl, rfl⟩
/-- the same, with the place as an Int -/
theorem at17_at (A : Option Addr) (c : Nat) (D : List Int) (i m : Nat) (J : Int) (hJ : J = i) (w : World) (hm : 1 ≤ m ∧ m ≤ 1000) (hi : i ≤ 1000) (hD : Dr w A D) :
    Calls Tryd.prog 78 #[.slice A D.length c, .int .i64 J, .int .i64 (m : Int)] w fun e w' => e = .returned (.int .i64 (P17.at_ D i m : Int)) ∧ w' = w := by
  rw [hJ]; exact at17_any A c D i m w hm hi hD
end Go.Proofs.YtlideagcmhlkeaaDoor

/- The walks of the days and times of a draft (chapter 17). -/
namespace Go.Proofs.YtlideagcmhlkeaaDoor
open Go.RowKit Go.Lib
set_option linter.unusedVariables false

set_option maxRecDepth 100000 in
set_option maxHeartbeats 8000000 in
theorem clock17_any (A : Option Addr) (c : Nat) (D : List Int) (i : Nat) (J : Int) (hJ : J = i) (w : World) (hi : i ≤ 900) (hD : Dr w A D) :
    Calls Tryd.prog 79 #[.slice A D.length c, .int .i64 J] w fun e w' => e = .returned (.agg #[.int .i64 ((P17.at_ D i 49 : Int) * 1800), .int .i64 (P17.at_ D (i + 1) 3 : Int)]) ∧ Below w.heap.size w w' := by
  have c1 : Hid (∀ W, Dr W A D → Calls Tryd.prog 78 #[.slice A D.length c, .int .i64 J, .int .i64 49] W fun e w' => e = .returned (.int .i64 (P17.at_ D i 49 : Int)) ∧ w' = W) := fun W h => at17_at A c D i 49 J hJ W (by decide) (by omega) h
  have c2 : Hid (∀ W, Dr W A D → Calls Tryd.prog 78 #[.slice A D.length c, .int .i64 (J + 1), .int .i64 3] W fun e w' => e = .returned (.int .i64 (P17.at_ D (i + 1) 3 : Int)) ∧ w' = W) := fun W h => at17_at A c D (i + 1) 3 (J + 1) (by omega) W (by decide) (by omega) h
  have hJ0 : 0 ≤ J := by omega
  have hJ1 : J ≤ 900 := by omega
  have l1 := P17.at_lt D i (show 0 < 49 by decide)
  have l2 := P17.at_lt D (i + 1) (show 0 < 3 by decide)
  have hX0 : (0 : Int) ≤ (P17.at_ D i 49 : Int) := by omega
  have hX1 : (P17.at_ D i 49 : Int) ≤ 49 := by omega
  generalize (P17.at_ D i 49 : Int) = X at *
  generalize (P17.at_ D (i + 1) 3 : Int) = Y at *
  clear hJ hi l1 l2
  have hD0 := hD.alloc (.cells #[.int .i64 0, .int .i64 0] 43)
  have hB := Blk.new w 43 #[.int .i64 0, .int .i64 0]
  have hb0 := (Below.refl w.heap.size w).alloc (Nat.le_refl _) (.cells #[.int .i64 0, .int .i64 0] 43)
  generalize D.length = N at c1 c2 ⊢
  go_enter Tryd.func79, Tryd.ntmps79
  go_wp2_with fail
  refine (c1.out _ hD0).mono ?_
  rintro e w1 ⟨rfl, rfl⟩
  go_wp2_with fail
  refine (c2.out _ hD0).mono ?_
  rintro e w2 ⟨rfl, rfl⟩
  go_wp2_with fail
  exact bodyPost_ret (v := .agg #[.int .i64 (X * 1800), .int .i64 Y]) (by simp [results, Tryd.results79, go_sem]) rfl ⟨rfl, (Below.refl w.heap.size w).alloc (Nat.le_refl _) _⟩
theorem pass_g {W W' : World} {n : Nat} {t : TypeId} {cs : Array Value} {p : Nat → Prop} (hg : ∀ g t cs, g ≠ n → Blk W g t cs → Blk W' g t cs) (h : ∃ g, p g ∧ g ≠ n ∧ Blk W g t cs) : ∃ g, p g ∧ g ≠ n ∧ Blk W' g t cs := by
  obtain ⟨g, h1, h2, h3⟩ := h
  exact ⟨g, h1, h2, hg g t cs h2 h3⟩
set_option maxRecDepth 100000 in
set_option maxHeartbeats 8000000 in
theorem day17_any (A : Option Addr) (c : Nat) (D : List Int) (B i : Nat) (J : Int) (hJ : J = i) (w : World) (hi : i ≤ 900) (hD : Dr w A D) (hB : B < w.heap.size) (hc : w.cell? ⟨B, 0, none⟩ = some (.slice A D.length c)) :
    Calls Tryd.prog 104 #[.int .i64 J, .pointer (some ⟨B, 0, none⟩)] w fun e w' => e = .returned (.agg #[.int .i64 (P17.day D i).1, .int .i64 (P17.day D i).2.1, .int .i64 (P17.day D i).2.2]) ∧ Below w.heap.size w w' := by
  have c1 : Hid (∀ W, Below w.heap.size w W → Calls Tryd.prog 78 #[.slice A D.length c, .int .i64 J, .int .i64 7] W fun e w' => e = .returned (.int .i64 (P17.at_ D i 7 : Int)) ∧ w' = W) := fun W h => at17_at A c D i 7 J hJ W (by decide) (by omega) (hD.below h)
  have c2 : Hid (∀ W, Below w.heap.size w W → Calls Tryd.prog 78 #[.slice A D.length c, .int .i64 (J + 1), .int .i64 4] W fun e w' => e = .returned (.int .i64 (P17.at_ D (i + 1) 4 : Int)) ∧ w' = W) := fun W h => at17_at A c D (i + 1) 4 (J + 1) (by omega) W (by decide) (by omega) (hD.below h)
  have c3 : Hid (∀ W, Below w.heap.size w W → Calls Tryd.prog 78 #[.slice A D.length c, .int .i64 (J + 1), .int .i64 28] W fun e w' => e = .returned (.int .i64 (P17.at_ D (i + 1) 28 : Int)) ∧ w' = W) := fun W h => at17_at A c D (i + 1) 28 (J + 1) (by omega) W (by decide) (by omega) (hD.below h)
  have c4 : Hid (∀ W, Below w.heap.size w W → Calls Tryd.prog 78 #[.slice A D.length c, .int .i64 (J + 2), .int .i64 3] W fun e w' => e = .returned (.int .i64 (P17.at_ D (i + 2) 3 : Int)) ∧ w' = W) := fun W h => at17_at A c D (i + 2) 3 (J + 2) (by omega) W (by decide) (by omega) (hD.below h)
  have hJ0 : 0 ≤ J := by omega
  have hJ1 : J ≤ 900 := by omega
  have l1 := P17.at_lt D i (show 0 < 7 by decide)
  have l2 := P17.at_lt D (i + 1) (show 0 < 4 by decide)
  have l3 := P17.at_lt D (i + 1) (show 0 < 28 by decide)
  have l4 := P17.at_lt D (i + 2) (show 0 < 3 by decide)
  have hX0 : (0 : Int) ≤ (P17.at_ D (i + 1) 4 : Int) := by omega
  have hX1 : (P17.at_ D (i + 1) 4 : Int) ≤ 4 := by omega
  have hY0 : (0 : Int) ≤ (P17.at_ D (i + 1) 28 : Int) := by omega
  have hY1 : (P17.at_ D (i + 1) 28 : Int) ≤ 28 := by omega
  have hK : (P17.at_ D (i + 2) 3 : Int) = 0 ∨ (P17.at_ D (i + 2) 3 : Int) = 1 ∨ (P17.at_ D (i + 2) 3 : Int) = 2 := by omega
  have hdy : P17.day D i = if (P17.at_ D (i + 2) 3 : Int) = 0 then (2, (P17.at_ D i 7 : Int), 0) else if (P17.at_ D (i + 2) 3 : Int) = 1 then (3, (P17.at_ D i 7 : Int), 1 + 7 * (P17.at_ D (i + 1) 4 : Int)) else (1, 0, 1 + (P17.at_ D (i + 1) 28 : Int)) := by
    unfold P17.day
    rcases hK with h | h | h
    · rw [if_pos (by omega), if_pos h]
    · rw [if_neg (by omega), if_pos (by omega), if_neg (by omega), if_pos h]
    · rw [if_neg (by omega), if_neg (by omega), if_neg (by omega), if_neg (by omega)]
  rw [hdy]
  clear hdy
  have wj1 : IntKind.i64.wrap (J + 1) = J + 1 := IntWalk.i64_in _ (by omega)
  have wj3 : IntKind.i64.wrap (7 * (P17.at_ D (i + 1) 4 : Int)) = 7 * (P17.at_ D (i + 1) 4 : Int) := IntWalk.i64_in _ (by omega)
  have wj4 : IntKind.i64.wrap (1 + 7 * (P17.at_ D (i + 1) 4 : Int)) = 1 + 7 * (P17.at_ D (i + 1) 4 : Int) := IntWalk.i64_in _ (by omega)
  have wj5 : IntKind.i64.wrap (1 + (P17.at_ D (i + 1) 28 : Int)) = 1 + (P17.at_ D (i + 1) 28 : Int) := IntWalk.i64_in _ (by omega)
  have wj2 : IntKind.i64.wrap (J + 2) = J + 2 := IntWalk.i64_in _ (by omega)
  have hc0 : (w.alloc (.cells #[.int .i64 0, .int .i64 0, .int .i64 0] 41)).cell? ⟨B, 0, none⟩ = some (.slice A D.length c) := (((Below.refl _ w).alloc (Nat.le_refl _) _).cell (p := ⟨B, 0, none⟩) hB).trans hc
  have hb0 := (Below.refl w.heap.size w).alloc (Nat.le_refl _) (.cells #[.int .i64 0, .int .i64 0, .int .i64 0] 41)
  have HC : Hid (∀ W, Below w.heap.size w W → W.cell? ⟨B, 0, none⟩ = some (.slice A D.length c)) := Lib.hid fun W h => (h.cell (p := ⟨B, 0, none⟩) hB).trans hc
  generalize (P17.at_ D (i + 2) 3 : Int) = K3 at *
  generalize (P17.at_ D i 7 : Int) = W7 at *
  generalize (P17.at_ D (i + 1) 4 : Int) = X4 at *
  generalize (P17.at_ D (i + 1) 28 : Int) = X28 at *
  clear hJ hi l1 l2 l3 l4 hc
  generalize D.length = N at *
  have hS2 : ∀ {W : World}, Below w.heap.size w W → W.cell? ⟨B, 0, none⟩ = some (.slice A N c) := fun h => HC.out _ h
  have hR0 : Blk ((w.alloc (.cells #[.int .i64 0, .int .i64 0, .int .i64 0] 41)).drew) w.heap.size 41 #[.int .i64 0, .int .i64 0, .int .i64 0] := Blk.new w _ _
  have hS2 : ∀ {W : World}, Below w.heap.size w W → W.cell? ⟨B, 0, none⟩ = some (.slice A N c) := fun h => HC.out _ h
  have hR0 : Blk ((w.alloc (.cells #[.int .i64 0, .int .i64 0, .int .i64 0] 41)).drew) w.heap.size 41 #[.int .i64 0, .int .i64 0, .int .i64 0] := Blk.new w _ _
  have hS2 : ∀ {W : World}, Below w.heap.size w W → W.cell? ⟨B, 0, none⟩ = some (.slice A N c) := fun h => HC.out _ h
  have hR0 : Blk ((w.alloc (.cells #[.int .i64 0, .int .i64 0, .int .i64 0] 41)).drew) w.heap.size 41 #[.int .i64 0, .int .i64 0, .int .i64 0] := Blk.new w _ _
  rcases hK with rfl | rfl | rfl
  · go_enter Tryd.func104, Tryd.ntmps104
    go_wp2_with fail
    refine (c1.out _ hb0).mono ?_
    rintro e w1 ⟨rfl, rfl⟩
    go_upto_region 2 with fail
    refine wp_region_shape [(some 8, []), (some 9, [0]), (some 10, []), (some 11, []), (some 12, []), (some 13, [4]), (some 14, [3, 5]), (some 15, [6]), (some 16, [7]), (some 17, [2, 8]), (some 18, []), (some 19, []), (some 20, [11]), (some 21, [10, 12, 6]), (some 22, [13]), (some 23, [14]), (some 24, [1, 9, 15]), (some 25, []), (some 26, []), (some 27, [18]), (some 28, [17, 19, 13]), (some 29, [16, 20]), (some 30, [21]), (none, [22, 20, 0, 1, 2, 3, 4, 5, 6, 7, 8, 9, 10, 11, 12, 13, 14, 15, 16, 17, 18, 19, 20, 21, 22])] (fun y => { tmps := #[.int .i64 J, .pointer (some ⟨B, 0, none⟩), undef, .pointer (some ⟨w.heap.size, 0, none⟩), .int .i64 W7, .slice A N c, .int .i64 J, .int .i64 W7, y 8, y 9, y 10, y 11, y 12, y 13, y 14, y 15, y 16, y 17, y 18, y 19, y 20, y 21, y 22, y 23, y 24, y 25, y 26, y 27, y 28, y 29, y 30], defers := [] }) (fun _ => undef) (fun j => j == 16 || j == 21 || j == 23) [.int .i64 W7, .agg #[.int .i64 2, .int .i64 W7, .int .i64 0], .int .i64 W7, .slice A N c, .int .i64 J, .int .i64 (J + 1), .int .i64 X4, .int .i64 (7 * X4), .int .i64 (1 + 7 * X4), .agg #[.int .i64 3, .int .i64 W7, .int .i64 (1 + 7 * X4)], .slice A N c, .int .i64 J, .int .i64 (J + 1), .int .i64 X28, .int .i64 (1 + X28), .agg #[.int .i64 1, .int .i64 0, .int .i64 (1 + X28)], undef, .slice A N c, .int .i64 J, .int .i64 (J + 2), .int .i64 0, undef, .agg #[.int .i64 2, .int .i64 W7, .int .i64 0], undef] (fun j y W => match j with | 16 => ∃ g, y 24 = .slice (some ⟨g, 0, none⟩) 3 3 ∧ g ≠ w.heap.size ∧ Blk W g 41 #[.int .i64 2, .int .i64 W7, .int .i64 0, .int .i64 3, .int .i64 W7, .int .i64 (1 + 7 * X4), .int .i64 1, .int .i64 0, .int .i64 (1 + X28)] | 21 => ∃ g, y 29 = .pointer (some ⟨g, 0, none⟩) ∧ g ≠ w.heap.size ∧ Blk W g 41 #[.int .i64 2, .int .i64 W7, .int .i64 0, .int .i64 3, .int .i64 W7, .int .i64 (1 + 7 * X4), .int .i64 1, .int .i64 0, .int .i64 (1 + X28)] | 23 => Blk W w.heap.size 41 #[.int .i64 2, .int .i64 W7, .int .i64 0] | _ => True) (fun j => match j with | 16 => [24] | 21 => [29] | 23 => [] | _ => []) (fun W W' => ∀ g t cs, g ≠ w.heap.size → Blk W g t cs → Blk W' g t cs) (fun W => Below w.heap.size w W ∧ W.cell? ⟨B, 0, none⟩ = some (.slice A N c) ∧ ∃ a b d, Blk W w.heap.size 41 #[a, b, d]) (by kernel_rfl) (by kernel_rfl) (by decide +kernel) rfl ⟨hb0.drew, HC.out _ hb0.drew, _, _, _, hR0⟩ ?hput ?hloc ?hmono ?hstep ?hdone
    case hput =>
      intro d hd y v
      simp only [List.filterMap_cons, List.filterMap_nil, List.mem_cons, List.not_mem_nil, or_false] at hd
      rcases hd with rfl | rfl | rfl | rfl | rfl | rfl | rfl | rfl | rfl | rfl | rfl | rfl | rfl | rfl | rfl | rfl | rfl | rfl | rfl | rfl | rfl | rfl | rfl
      all_goals rfl
    case hloc =>
      intro j hj y y' W hk hx
      have hj' : j = 16 ∨ j = 21 ∨ j = 23 := by simpa [or_assoc] using hj
      rcases hj' with rfl | rfl | rfl
      · simp only [List.forall_mem_cons, List.not_mem_nil, false_imp_iff, implies_true, and_true] at hk
        show _
        simpa only [hk] using hx
      · simp only [List.forall_mem_cons, List.not_mem_nil, false_imp_iff, implies_true, and_true] at hk
        show _
        simpa only [hk] using hx
      · skip
        exact hx
    case hmono =>
      intro j hj hlast y W W' hg hx
      have hj' : j = 16 ∨ j = 21 ∨ j = 23 := by simpa [or_assoc] using hj
      rcases hj' with rfl | rfl | rfl
      · exact pass_g hg hx
      · exact pass_g hg hx
      · exact absurd hlast (by decide)
    case hdone =>
      intro y W hS hd
      have x23 : (fun (y : Nat → Value) (W : World) => Blk W w.heap.size 41 #[.int .i64 2, .int .i64 W7, .int .i64 0]) y W := (hd 23 (by decide)).ex rfl
      obtain ⟨hb, hc, a, b, d, hr⟩ := hS
      have r0 := x23.cell 0
      have r1 := x23.cell 1
      have r2 := x23.cell 2
      go_wp2_with fail
      exact bodyPost_ret (v := .agg #[.int .i64 2, .int .i64 W7, .int .i64 0]) (by simp [results, Tryd.results104, go_sem, r0, r1, r2]) rfl ⟨rfl, hb⟩
    case hstep =>
      refine StepsOk.cons (StepOk.known rfl fun y W hS hd K' hK => ?_) ?_
      · skip
        clear hd
        go_simp
        exact hK.out _ _ rfl (fun _ _ _ _ h => h) hS
      refine StepsOk.cons (StepOk.known rfl fun y W hS hd K' hK => ?_) ?_
      · skip
        have e8 : y 8 = .int .i64 W7 := (hd 0 rfl).val rfl rfl
        clear hd
        go_simp
        exact hK.out _ _ (by first | rfl | (simp only [e8]; done) | (simp only [e8]; rfl)) (fun _ _ _ _ h => h) hS
      refine StepsOk.cons (StepOk.known rfl fun y W hS hd K' hK => ?_) ?_
      · skip
        clear hd
        go_simp
        exact hK.out _ _ rfl (fun _ _ _ _ h => h) hS
      refine StepsOk.cons (StepOk.known rfl fun y W hS hd K' hK => ?_) ?_
      · skip
        clear hd
        have hc := hS.2.1
        go_simp
        exact hK.out _ _ rfl (fun _ _ _ _ h => h) hS
      refine StepsOk.cons (StepOk.known rfl fun y W hS hd K' hK => ?_) ?_
      · skip
        clear hd
        go_simp
        exact hK.out _ _ rfl (fun _ _ _ _ h => h) hS
      refine StepsOk.cons (StepOk.known rfl fun y W hS hd K' hK => ?_) ?_
      · skip
        have e12 : y 12 = .int .i64 J := (hd 4 rfl).val rfl rfl
        clear hd
        go_simp
        exact hK.out _ _ (by first | rfl | (simp only [e12]; done) | (simp only [e12]; rfl)) (fun _ _ _ _ h => h) hS
      refine StepsOk.cons (StepOk.known rfl fun y W hS hd K' hK => ?_) ?_
      · skip
        have e11 : y 11 = .slice A N c := (hd 3 rfl).val rfl rfl
        have e13 : y 13 = .int .i64 (J + 1) := (hd 5 rfl).val rfl rfl
        clear hd
        go_simp
        refine (c2.out _ hS.1).mono ?_
        rintro e W' ⟨rfl, rfl⟩
        go_wp2_with fail
        exact hK.out _ _ (by first | rfl | (simp only [e11, e13]; done) | (simp only [e11, e13]; rfl)) (fun _ _ _ _ h => h) hS
      refine StepsOk.cons (StepOk.known rfl fun y W hS hd K' hK => ?_) ?_
      · skip
        have e14 : y 14 = .int .i64 X4 := (hd 6 rfl).val rfl rfl
        clear hd
        go_simp
        exact hK.out _ _ (by first | rfl | (simp only [e14]; done) | (simp only [e14]; rfl)) (fun _ _ _ _ h => h) hS
      refine StepsOk.cons (StepOk.known rfl fun y W hS hd K' hK => ?_) ?_
      · skip
        have e15 : y 15 = .int .i64 (7 * X4) := (hd 7 rfl).val rfl rfl
        clear hd
        go_simp
        exact hK.out _ _ (by first | rfl | (simp only [e15]; done) | (simp only [e15]; rfl)) (fun _ _ _ _ h => h) hS
      refine StepsOk.cons (StepOk.known rfl fun y W hS hd K' hK => ?_) ?_
      · skip
        have e10 : y 10 = .int .i64 W7 := (hd 2 rfl).val rfl rfl
        have e16 : y 16 = .int .i64 (1 + 7 * X4) := (hd 8 rfl).val rfl rfl
        clear hd
        go_simp
        exact hK.out _ _ (by first | rfl | (simp only [e10, e16]; done) | (simp only [e10, e16]; rfl)) (fun _ _ _ _ h => h) hS
      refine StepsOk.cons (StepOk.known rfl fun y W hS hd K' hK => ?_) ?_
      · skip
        clear hd
        have hc := hS.2.1
        go_simp
        exact hK.out _ _ rfl (fun _ _ _ _ h => h) hS
      refine StepsOk.cons (StepOk.known rfl fun y W hS hd K' hK => ?_) ?_
      · skip
        clear hd
        go_simp
        exact hK.out _ _ rfl (fun _ _ _ _ h => h) hS
      refine StepsOk.cons (StepOk.known rfl fun y W hS hd K' hK => ?_) ?_
      · skip
        have e19 : y 19 = .int .i64 J := (hd 11 rfl).val rfl rfl
        clear hd
        go_simp
        exact hK.out _ _ (by first | rfl | (simp only [e19]; done) | (simp only [e19]; rfl)) (fun _ _ _ _ h => h) hS
      refine StepsOk.cons (StepOk.known rfl fun y W hS hd K' hK => ?_) ?_
      · skip
        have e14 : y 14 = .int .i64 X4 := (hd 6 rfl).val rfl rfl
        have e18 : y 18 = .slice A N c := (hd 10 rfl).val rfl rfl
        have e20 : y 20 = .int .i64 (J + 1) := (hd 12 rfl).val rfl rfl
        clear hd
        go_simp
        refine (c3.out _ hS.1).mono ?_
        rintro e W' ⟨rfl, rfl⟩
        go_wp2_with fail
        exact hK.out _ _ (by first | rfl | (simp only [e14, e18, e20]; done) | (simp only [e14, e18, e20]; rfl)) (fun _ _ _ _ h => h) hS
      refine StepsOk.cons (StepOk.known rfl fun y W hS hd K' hK => ?_) ?_
      · skip
        have e21 : y 21 = .int .i64 X28 := (hd 13 rfl).val rfl rfl
        clear hd
        go_simp
        exact hK.out _ _ (by first | rfl | (simp only [e21]; done) | (simp only [e21]; rfl)) (fun _ _ _ _ h => h) hS
      refine StepsOk.cons (StepOk.known rfl fun y W hS hd K' hK => ?_) ?_
      · skip
        have e22 : y 22 = .int .i64 (1 + X28) := (hd 14 rfl).val rfl rfl
        clear hd
        go_simp
        exact hK.out _ _ (by first | rfl | (simp only [e22]; done) | (simp only [e22]; rfl)) (fun _ _ _ _ h => h) hS
      refine StepsOk.cons (StepOk.other rfl fun y W hS hd K' hK => ?_) ?_
      · skip
        have e9 : y 9 = .agg #[.int .i64 2, .int .i64 W7, .int .i64 0] := (hd 1 rfl).val rfl rfl
        have e17 : y 17 = .agg #[.int .i64 3, .int .i64 W7, .int .i64 (1 + 7 * X4)] := (hd 9 rfl).val rfl rfl
        have e23 : y 23 = .agg #[.int .i64 1, .int .i64 0, .int .i64 (1 + X28)] := (hd 15 rfl).val rfl rfl
        clear hd
        obtain ⟨hb, hc, a, b, d, hr⟩ := hS
        go_simp
        exact hK.out _ _ _ (by first | rfl | (simp only [e9, e17, e23]; done) | (simp only [e9, e17, e23]; rfl)) (fun _ _ _ _ h => h.alloc _) ⟨hb.alloc hb.size _, (hS2 (hb.alloc hb.size _)), a, b, d, hr.alloc _⟩ (show ∃ g, _ = Value.slice (some ⟨g, 0, none⟩) 3 3 ∧ g ≠ w.heap.size ∧ Blk _ g 41 #[.int .i64 2, .int .i64 W7, .int .i64 0, .int .i64 3, .int .i64 W7, .int .i64 (1 + 7 * X4), .int .i64 1, .int .i64 0, .int .i64 (1 + X28)] from ⟨_, rfl, by have := hr.lt; omega, Blk.new W _ _⟩)
      refine StepsOk.cons (StepOk.known rfl fun y W hS hd K' hK => ?_) ?_
      · skip
        clear hd
        have hc := hS.2.1
        go_simp
        exact hK.out _ _ rfl (fun _ _ _ _ h => h) hS
      refine StepsOk.cons (StepOk.known rfl fun y W hS hd K' hK => ?_) ?_
      · skip
        clear hd
        go_simp
        exact hK.out _ _ rfl (fun _ _ _ _ h => h) hS
      refine StepsOk.cons (StepOk.known rfl fun y W hS hd K' hK => ?_) ?_
      · skip
        have e26 : y 26 = .int .i64 J := (hd 18 rfl).val rfl rfl
        clear hd
        go_simp
        exact hK.out _ _ (by first | rfl | (simp only [e26]; done) | (simp only [e26]; rfl)) (fun _ _ _ _ h => h) hS
      refine StepsOk.cons (StepOk.known rfl fun y W hS hd K' hK => ?_) ?_
      · skip
        have e21 : y 21 = .int .i64 X28 := (hd 13 rfl).val rfl rfl
        have e25 : y 25 = .slice A N c := (hd 17 rfl).val rfl rfl
        have e27 : y 27 = .int .i64 (J + 2) := (hd 19 rfl).val rfl rfl
        clear hd
        go_simp
        refine (c4.out _ hS.1).mono ?_
        rintro e W' ⟨rfl, rfl⟩
        go_wp2_with fail
        exact hK.out _ _ (by first | rfl | (simp only [e21, e25, e27]; done) | (simp only [e21, e25, e27]; rfl)) (fun _ _ _ _ h => h) hS
      refine StepsOk.cons (StepOk.other rfl fun y W hS hd K' hK => ?_) ?_
      · skip
        have x16 : (fun (y : Nat → Value) (W : World) => ∃ g, y 24 = .slice (some ⟨g, 0, none⟩) 3 3 ∧ g ≠ w.heap.size ∧ Blk W g 41 #[.int .i64 2, .int .i64 W7, .int .i64 0, .int .i64 3, .int .i64 W7, .int .i64 (1 + 7 * X4), .int .i64 1, .int .i64 0, .int .i64 (1 + X28)]) y W := (hd 16 rfl).ex rfl
        have e28 : y 28 = .int .i64 0 := (hd 20 rfl).val rfl rfl
        clear hd
        obtain ⟨g, h1, h2, h3⟩ := x16
        go_simp
        exact hK.out _ _ _ (by first | rfl | (simp only [e28, h1]; done) | (simp only [e28, h1]; rfl)) (fun _ _ _ _ h => h) hS (show ∃ g, _ = Value.pointer (some ⟨g, 0, none⟩) ∧ g ≠ w.heap.size ∧ Blk W g 41 #[.int .i64 2, .int .i64 W7, .int .i64 0, .int .i64 3, .int .i64 W7, .int .i64 (1 + 7 * X4), .int .i64 1, .int .i64 0, .int .i64 (1 + X28)] from ⟨g, rfl, h2, h3⟩)
      refine StepsOk.cons (StepOk.known rfl fun y W hS hd K' hK => ?_) ?_
      · skip
        have x21 : (fun (y : Nat → Value) (W : World) => ∃ g, y 29 = .pointer (some ⟨g, 0, none⟩) ∧ g ≠ w.heap.size ∧ Blk W g 41 #[.int .i64 2, .int .i64 W7, .int .i64 0, .int .i64 3, .int .i64 W7, .int .i64 (1 + 7 * X4), .int .i64 1, .int .i64 0, .int .i64 (1 + X28)]) y W := (hd 21 rfl).ex rfl
        clear hd
        obtain ⟨g, h1, h2, h3⟩ := x21
        have k0 := (h3.cell 0).trans rfl
        have k1 := (h3.cell 1).trans rfl
        have k2 := (h3.cell 2).trans rfl
        go_simp
        exact hK.out _ _ (by first | rfl | (simp only [h1]; done) | (simp only [h1]; rfl)) (fun _ _ _ _ h => h) hS
      refine StepsOk.cons (StepOk.other rfl fun y W hS hd K' hK => ?_) ?_
      · skip
        have e8 : y 8 = .int .i64 W7 := (hd 0 rfl).val rfl rfl
        have e9 : y 9 = .agg #[.int .i64 2, .int .i64 W7, .int .i64 0] := (hd 1 rfl).val rfl rfl
        have e10 : y 10 = .int .i64 W7 := (hd 2 rfl).val rfl rfl
        have e11 : y 11 = .slice A N c := (hd 3 rfl).val rfl rfl
        have e12 : y 12 = .int .i64 J := (hd 4 rfl).val rfl rfl
        have e13 : y 13 = .int .i64 (J + 1) := (hd 5 rfl).val rfl rfl
        have e14 : y 14 = .int .i64 X4 := (hd 6 rfl).val rfl rfl
        have e15 : y 15 = .int .i64 (7 * X4) := (hd 7 rfl).val rfl rfl
        have e16 : y 16 = .int .i64 (1 + 7 * X4) := (hd 8 rfl).val rfl rfl
        have e17 : y 17 = .agg #[.int .i64 3, .int .i64 W7, .int .i64 (1 + 7 * X4)] := (hd 9 rfl).val rfl rfl
        have e18 : y 18 = .slice A N c := (hd 10 rfl).val rfl rfl
        have e19 : y 19 = .int .i64 J := (hd 11 rfl).val rfl rfl
        have e20 : y 20 = .int .i64 (J + 1) := (hd 12 rfl).val rfl rfl
        have e21 : y 21 = .int .i64 X28 := (hd 13 rfl).val rfl rfl
        have e22 : y 22 = .int .i64 (1 + X28) := (hd 14 rfl).val rfl rfl
        have e23 : y 23 = .agg #[.int .i64 1, .int .i64 0, .int .i64 (1 + X28)] := (hd 15 rfl).val rfl rfl
        have x16 : (fun (y : Nat → Value) (W : World) => ∃ g, y 24 = .slice (some ⟨g, 0, none⟩) 3 3 ∧ g ≠ w.heap.size ∧ Blk W g 41 #[.int .i64 2, .int .i64 W7, .int .i64 0, .int .i64 3, .int .i64 W7, .int .i64 (1 + 7 * X4), .int .i64 1, .int .i64 0, .int .i64 (1 + X28)]) y W := (hd 16 rfl).ex rfl
        have e25 : y 25 = .slice A N c := (hd 17 rfl).val rfl rfl
        have e26 : y 26 = .int .i64 J := (hd 18 rfl).val rfl rfl
        have e27 : y 27 = .int .i64 (J + 2) := (hd 19 rfl).val rfl rfl
        have e28 : y 28 = .int .i64 0 := (hd 20 rfl).val rfl rfl
        have x21 : (fun (y : Nat → Value) (W : World) => ∃ g, y 29 = .pointer (some ⟨g, 0, none⟩) ∧ g ≠ w.heap.size ∧ Blk W g 41 #[.int .i64 2, .int .i64 W7, .int .i64 0, .int .i64 3, .int .i64 W7, .int .i64 (1 + 7 * X4), .int .i64 1, .int .i64 0, .int .i64 (1 + X28)]) y W := (hd 21 rfl).ex rfl
        have e30 : y 30 = .agg #[.int .i64 2, .int .i64 W7, .int .i64 0] := (hd 22 rfl).val rfl rfl
        clear hd
        obtain ⟨hb, hc, a, b, d, hr⟩ := hS
        have k0 := (hr.cell 0).trans rfl
        have k1 := (hr.cell 1).trans rfl
        have k2 := (hr.cell 2).trans rfl
        have f0 := hr.frozen 0
        have f1 := hr.frozen 1
        have f2 := hr.frozen 2
        have hr3 := ((hr.set_ 0 (.int .i64 2)).set_ 1 (.int .i64 W7)).set_ 2 (.int .i64 0)
        have hb3 := ((hb.setCell (p := ⟨w.heap.size, 0, none⟩) (Nat.le_refl _) (.int .i64 2)).setCell (p := ⟨w.heap.size, 1, none⟩) (Nat.le_refl _) (.int .i64 W7)).setCell (p := ⟨w.heap.size, 2, none⟩) (Nat.le_refl _) (.int .i64 0)
        go_simp
        exact hK.out undef _ _ (by first | rfl | (simp only [e8, e9, e10, e11, e12, e13, e14, e15, e16, e17, e18, e19, e20, e21, e22, e23, e25, e26, e27, e28, e30]; done) | (simp only [e8, e9, e10, e11, e12, e13, e14, e15, e16, e17, e18, e19, e20, e21, e22, e23, e25, e26, e27, e28, e30]; rfl)) (fun g _ _ hg h => ((h.far hg _).far hg _).far hg _) ⟨hb3, hS2 hb3, _, _, _, hr3⟩ hr3
      exact StepsOk.nil
  · go_enter Tryd.func104, Tryd.ntmps104
    go_wp2_with fail
    refine (c1.out _ hb0).mono ?_
    rintro e w1 ⟨rfl, rfl⟩
    go_upto_region 2 with fail
    refine wp_region_shape [(some 8, []), (some 9, [0]), (some 10, []), (some 11, []), (some 12, []), (some 13, [4]), (some 14, [3, 5]), (some 15, [6]), (some 16, [7]), (some 17, [2, 8]), (some 18, []), (some 19, []), (some 20, [11]), (some 21, [10, 12, 6]), (some 22, [13]), (some 23, [14]), (some 24, [1, 9, 15]), (some 25, []), (some 26, []), (some 27, [18]), (some 28, [17, 19, 13]), (some 29, [16, 20]), (some 30, [21]), (none, [22, 20, 0, 1, 2, 3, 4, 5, 6, 7, 8, 9, 10, 11, 12, 13, 14, 15, 16, 17, 18, 19, 20, 21, 22])] (fun y => { tmps := #[.int .i64 J, .pointer (some ⟨B, 0, none⟩), undef, .pointer (some ⟨w.heap.size, 0, none⟩), .int .i64 W7, .slice A N c, .int .i64 J, .int .i64 W7, y 8, y 9, y 10, y 11, y 12, y 13, y 14, y 15, y 16, y 17, y 18, y 19, y 20, y 21, y 22, y 23, y 24, y 25, y 26, y 27, y 28, y 29, y 30], defers := [] }) (fun _ => undef) (fun j => j == 16 || j == 21 || j == 23) [.int .i64 W7, .agg #[.int .i64 2, .int .i64 W7, .int .i64 0], .int .i64 W7, .slice A N c, .int .i64 J, .int .i64 (J + 1), .int .i64 X4, .int .i64 (7 * X4), .int .i64 (1 + 7 * X4), .agg #[.int .i64 3, .int .i64 W7, .int .i64 (1 + 7 * X4)], .slice A N c, .int .i64 J, .int .i64 (J + 1), .int .i64 X28, .int .i64 (1 + X28), .agg #[.int .i64 1, .int .i64 0, .int .i64 (1 + X28)], undef, .slice A N c, .int .i64 J, .int .i64 (J + 2), .int .i64 1, undef, .agg #[.int .i64 3, .int .i64 W7, .int .i64 (1 + 7 * X4)], undef] (fun j y W => match j with | 16 => ∃ g, y 24 = .slice (some ⟨g, 0, none⟩) 3 3 ∧ g ≠ w.heap.size ∧ Blk W g 41 #[.int .i64 2, .int .i64 W7, .int .i64 0, .int .i64 3, .int .i64 W7, .int .i64 (1 + 7 * X4), .int .i64 1, .int .i64 0, .int .i64 (1 + X28)] | 21 => ∃ g, y 29 = .pointer (some ⟨g, 3, none⟩) ∧ g ≠ w.heap.size ∧ Blk W g 41 #[.int .i64 2, .int .i64 W7, .int .i64 0, .int .i64 3, .int .i64 W7, .int .i64 (1 + 7 * X4), .int .i64 1, .int .i64 0, .int .i64 (1 + X28)] | 23 => Blk W w.heap.size 41 #[.int .i64 3, .int .i64 W7, .int .i64 (1 + 7 * X4)] | _ => True) (fun j => match j with | 16 => [24] | 21 => [29] | 23 => [] | _ => []) (fun W W' => ∀ g t cs, g ≠ w.heap.size → Blk W g t cs → Blk W' g t cs) (fun W => Below w.heap.size w W ∧ W.cell? ⟨B, 0, none⟩ = some (.slice A N c) ∧ ∃ a b d, Blk W w.heap.size 41 #[a, b, d]) (by kernel_rfl) (by kernel_rfl) (by decide +kernel) rfl ⟨hb0.drew, HC.out _ hb0.drew, _, _, _, hR0⟩ ?hput ?hloc ?hmono ?hstep ?hdone
    case hput =>
      intro d hd y v
      simp only [List.filterMap_cons, List.filterMap_nil, List.mem_cons, List.not_mem_nil, or_false] at hd
      rcases hd with rfl | rfl | rfl | rfl | rfl | rfl | rfl | rfl | rfl | rfl | rfl | rfl | rfl | rfl | rfl | rfl | rfl | rfl | rfl | rfl | rfl | rfl | rfl
      all_goals rfl
    case hloc =>
      intro j hj y y' W hk hx
      have hj' : j = 16 ∨ j = 21 ∨ j = 23 := by simpa [or_assoc] using hj
      rcases hj' with rfl | rfl | rfl
      · simp only [List.forall_mem_cons, List.not_mem_nil, false_imp_iff, implies_true, and_true] at hk
        show _
        simpa only [hk] using hx
      · simp only [List.forall_mem_cons, List.not_mem_nil, false_imp_iff, implies_true, and_true] at hk
        show _
        simpa only [hk] using hx
      · skip
        exact hx
    case hmono =>
      intro j hj hlast y W W' hg hx
      have hj' : j = 16 ∨ j = 21 ∨ j = 23 := by simpa [or_assoc] using hj
      rcases hj' with rfl | rfl | rfl
      · exact pass_g hg hx
      · exact pass_g hg hx
      · exact absurd hlast (by decide)
    case hdone =>
      intro y W hS hd
      have x23 : (fun (y : Nat → Value) (W : World) => Blk W w.heap.size 41 #[.int .i64 3, .int .i64 W7, .int .i64 (1 + 7 * X4)]) y W := (hd 23 (by decide)).ex rfl
      obtain ⟨hb, hc, a, b, d, hr⟩ := hS
      have r0 := x23.cell 0
      have r1 := x23.cell 1
      have r2 := x23.cell 2
      go_wp2_with fail
      exact bodyPost_ret (v := .agg #[.int .i64 3, .int .i64 W7, .int .i64 (1 + 7 * X4)]) (by simp [results, Tryd.results104, go_sem, r0, r1, r2]) rfl ⟨rfl, hb⟩
    case hstep =>
      refine StepsOk.cons (StepOk.known rfl fun y W hS hd K' hK => ?_) ?_
      · skip
        clear hd
        go_simp
        exact hK.out _ _ rfl (fun _ _ _ _ h => h) hS
      refine StepsOk.cons (StepOk.known rfl fun y W hS hd K' hK => ?_) ?_
      · skip
        have e8 : y 8 = .int .i64 W7 := (hd 0 rfl).val rfl rfl
        clear hd
        go_simp
        exact hK.out _ _ (by first | rfl | (simp only [e8]; done) | (simp only [e8]; rfl)) (fun _ _ _ _ h => h) hS
      refine StepsOk.cons (StepOk.known rfl fun y W hS hd K' hK => ?_) ?_
      · skip
        clear hd
        go_simp
        exact hK.out _ _ rfl (fun _ _ _ _ h => h) hS
      refine StepsOk.cons (StepOk.known rfl fun y W hS hd K' hK => ?_) ?_
      · skip
        clear hd
        have hc := hS.2.1
        go_simp
        exact hK.out _ _ rfl (fun _ _ _ _ h => h) hS
      refine StepsOk.cons (StepOk.known rfl fun y W hS hd K' hK => ?_) ?_
      · skip
        clear hd
        go_simp
        exact hK.out _ _ rfl (fun _ _ _ _ h => h) hS
      refine StepsOk.cons (StepOk.known rfl fun y W hS hd K' hK => ?_) ?_
      · skip
        have e12 : y 12 = .int .i64 J := (hd 4 rfl).val rfl rfl
        clear hd
        go_simp
        exact hK.out _ _ (by first | rfl | (simp only [e12]; done) | (simp only [e12]; rfl)) (fun _ _ _ _ h => h) hS
      refine StepsOk.cons (StepOk.known rfl fun y W hS hd K' hK => ?_) ?_
      · skip
        have e11 : y 11 = .slice A N c := (hd 3 rfl).val rfl rfl
        have e13 : y 13 = .int .i64 (J + 1) := (hd 5 rfl).val rfl rfl
        clear hd
        go_simp
        refine (c2.out _ hS.1).mono ?_
        rintro e W' ⟨rfl, rfl⟩
        go_wp2_with fail
        exact hK.out _ _ (by first | rfl | (simp only [e11, e13]; done) | (simp only [e11, e13]; rfl)) (fun _ _ _ _ h => h) hS
      refine StepsOk.cons (StepOk.known rfl fun y W hS hd K' hK => ?_) ?_
      · skip
        have e14 : y 14 = .int .i64 X4 := (hd 6 rfl).val rfl rfl
        clear hd
        go_simp
        exact hK.out _ _ (by first | rfl | (simp only [e14]; done) | (simp only [e14]; rfl)) (fun _ _ _ _ h => h) hS
      refine StepsOk.cons (StepOk.known rfl fun y W hS hd K' hK => ?_) ?_
      · skip
        have e15 : y 15 = .int .i64 (7 * X4) := (hd 7 rfl).val rfl rfl
        clear hd
        go_simp
        exact hK.out _ _ (by first | rfl | (simp only [e15]; done) | (simp only [e15]; rfl)) (fun _ _ _ _ h => h) hS
      refine StepsOk.cons (StepOk.known rfl fun y W hS hd K' hK => ?_) ?_
      · skip
        have e10 : y 10 = .int .i64 W7 := (hd 2 rfl).val rfl rfl
        have e16 : y 16 = .int .i64 (1 + 7 * X4) := (hd 8 rfl).val rfl rfl
        clear hd
        go_simp
        exact hK.out _ _ (by first | rfl | (simp only [e10, e16]; done) | (simp only [e10, e16]; rfl)) (fun _ _ _ _ h => h) hS
      refine StepsOk.cons (StepOk.known rfl fun y W hS hd K' hK => ?_) ?_
      · skip
        clear hd
        have hc := hS.2.1
        go_simp
        exact hK.out _ _ rfl (fun _ _ _ _ h => h) hS
      refine StepsOk.cons (StepOk.known rfl fun y W hS hd K' hK => ?_) ?_
      · skip
        clear hd
        go_simp
        exact hK.out _ _ rfl (fun _ _ _ _ h => h) hS
      refine StepsOk.cons (StepOk.known rfl fun y W hS hd K' hK => ?_) ?_
      · skip
        have e19 : y 19 = .int .i64 J := (hd 11 rfl).val rfl rfl
        clear hd
        go_simp
        exact hK.out _ _ (by first | rfl | (simp only [e19]; done) | (simp only [e19]; rfl)) (fun _ _ _ _ h => h) hS
      refine StepsOk.cons (StepOk.known rfl fun y W hS hd K' hK => ?_) ?_
      · skip
        have e14 : y 14 = .int .i64 X4 := (hd 6 rfl).val rfl rfl
        have e18 : y 18 = .slice A N c := (hd 10 rfl).val rfl rfl
        have e20 : y 20 = .int .i64 (J + 1) := (hd 12 rfl).val rfl rfl
        clear hd
        go_simp
        refine (c3.out _ hS.1).mono ?_
        rintro e W' ⟨rfl, rfl⟩
        go_wp2_with fail
        exact hK.out _ _ (by first | rfl | (simp only [e14, e18, e20]; done) | (simp only [e14, e18, e20]; rfl)) (fun _ _ _ _ h => h) hS
      refine StepsOk.cons (StepOk.known rfl fun y W hS hd K' hK => ?_) ?_
      · skip
        have e21 : y 21 = .int .i64 X28 := (hd 13 rfl).val rfl rfl
        clear hd
        go_simp
        exact hK.out _ _ (by first | rfl | (simp only [e21]; done) | (simp only [e21]; rfl)) (fun _ _ _ _ h => h) hS
      refine StepsOk.cons (StepOk.known rfl fun y W hS hd K' hK => ?_) ?_
      · skip
        have e22 : y 22 = .int .i64 (1 + X28) := (hd 14 rfl).val rfl rfl
        clear hd
        go_simp
        exact hK.out _ _ (by first | rfl | (simp only [e22]; done) | (simp only [e22]; rfl)) (fun _ _ _ _ h => h) hS
      refine StepsOk.cons (StepOk.other rfl fun y W hS hd K' hK => ?_) ?_
      · skip
        have e9 : y 9 = .agg #[.int .i64 2, .int .i64 W7, .int .i64 0] := (hd 1 rfl).val rfl rfl
        have e17 : y 17 = .agg #[.int .i64 3, .int .i64 W7, .int .i64 (1 + 7 * X4)] := (hd 9 rfl).val rfl rfl
        have e23 : y 23 = .agg #[.int .i64 1, .int .i64 0, .int .i64 (1 + X28)] := (hd 15 rfl).val rfl rfl
        clear hd
        obtain ⟨hb, hc, a, b, d, hr⟩ := hS
        go_simp
        exact hK.out _ _ _ (by first | rfl | (simp only [e9, e17, e23]; done) | (simp only [e9, e17, e23]; rfl)) (fun _ _ _ _ h => h.alloc _) ⟨hb.alloc hb.size _, (hS2 (hb.alloc hb.size _)), a, b, d, hr.alloc _⟩ (show ∃ g, _ = Value.slice (some ⟨g, 0, none⟩) 3 3 ∧ g ≠ w.heap.size ∧ Blk _ g 41 #[.int .i64 2, .int .i64 W7, .int .i64 0, .int .i64 3, .int .i64 W7, .int .i64 (1 + 7 * X4), .int .i64 1, .int .i64 0, .int .i64 (1 + X28)] from ⟨_, rfl, by have := hr.lt; omega, Blk.new W _ _⟩)
      refine StepsOk.cons (StepOk.known rfl fun y W hS hd K' hK => ?_) ?_
      · skip
        clear hd
        have hc := hS.2.1
        go_simp
        exact hK.out _ _ rfl (fun _ _ _ _ h => h) hS
      refine StepsOk.cons (StepOk.known rfl fun y W hS hd K' hK => ?_) ?_
      · skip
        clear hd
        go_simp
        exact hK.out _ _ rfl (fun _ _ _ _ h => h) hS
      refine StepsOk.cons (StepOk.known rfl fun y W hS hd K' hK => ?_) ?_
      · skip
        have e26 : y 26 = .int .i64 J := (hd 18 rfl).val rfl rfl
        clear hd
        go_simp
        exact hK.out _ _ (by first | rfl | (simp only [e26]; done) | (simp only [e26]; rfl)) (fun _ _ _ _ h => h) hS
      refine StepsOk.cons (StepOk.known rfl fun y W hS hd K' hK => ?_) ?_
      · skip
        have e21 : y 21 = .int .i64 X28 := (hd 13 rfl).val rfl rfl
        have e25 : y 25 = .slice A N c := (hd 17 rfl).val rfl rfl
        have e27 : y 27 = .int .i64 (J + 2) := (hd 19 rfl).val rfl rfl
        clear hd
        go_simp
        refine (c4.out _ hS.1).mono ?_
        rintro e W' ⟨rfl, rfl⟩
        go_wp2_with fail
        exact hK.out _ _ (by first | rfl | (simp only [e21, e25, e27]; done) | (simp only [e21, e25, e27]; rfl)) (fun _ _ _ _ h => h) hS
      refine StepsOk.cons (StepOk.other rfl fun y W hS hd K' hK => ?_) ?_
      · skip
        have x16 : (fun (y : Nat → Value) (W : World) => ∃ g, y 24 = .slice (some ⟨g, 0, none⟩) 3 3 ∧ g ≠ w.heap.size ∧ Blk W g 41 #[.int .i64 2, .int .i64 W7, .int .i64 0, .int .i64 3, .int .i64 W7, .int .i64 (1 + 7 * X4), .int .i64 1, .int .i64 0, .int .i64 (1 + X28)]) y W := (hd 16 rfl).ex rfl
        have e28 : y 28 = .int .i64 1 := (hd 20 rfl).val rfl rfl
        clear hd
        obtain ⟨g, h1, h2, h3⟩ := x16
        go_simp
        exact hK.out _ _ _ (by first | rfl | (simp only [e28, h1]; done) | (simp only [e28, h1]; rfl)) (fun _ _ _ _ h => h) hS (show ∃ g, _ = Value.pointer (some ⟨g, 3, none⟩) ∧ g ≠ w.heap.size ∧ Blk W g 41 #[.int .i64 2, .int .i64 W7, .int .i64 0, .int .i64 3, .int .i64 W7, .int .i64 (1 + 7 * X4), .int .i64 1, .int .i64 0, .int .i64 (1 + X28)] from ⟨g, rfl, h2, h3⟩)
      refine StepsOk.cons (StepOk.known rfl fun y W hS hd K' hK => ?_) ?_
      · skip
        have x21 : (fun (y : Nat → Value) (W : World) => ∃ g, y 29 = .pointer (some ⟨g, 3, none⟩) ∧ g ≠ w.heap.size ∧ Blk W g 41 #[.int .i64 2, .int .i64 W7, .int .i64 0, .int .i64 3, .int .i64 W7, .int .i64 (1 + 7 * X4), .int .i64 1, .int .i64 0, .int .i64 (1 + X28)]) y W := (hd 21 rfl).ex rfl
        clear hd
        obtain ⟨g, h1, h2, h3⟩ := x21
        have k0 := (h3.cell 3).trans rfl
        have k1 := (h3.cell 4).trans rfl
        have k2 := (h3.cell 5).trans rfl
        go_simp
        exact hK.out _ _ (by first | rfl | (simp only [h1]; done) | (simp only [h1]; rfl)) (fun _ _ _ _ h => h) hS
      refine StepsOk.cons (StepOk.other rfl fun y W hS hd K' hK => ?_) ?_
      · skip
        have e8 : y 8 = .int .i64 W7 := (hd 0 rfl).val rfl rfl
        have e9 : y 9 = .agg #[.int .i64 2, .int .i64 W7, .int .i64 0] := (hd 1 rfl).val rfl rfl
        have e10 : y 10 = .int .i64 W7 := (hd 2 rfl).val rfl rfl
        have e11 : y 11 = .slice A N c := (hd 3 rfl).val rfl rfl
        have e12 : y 12 = .int .i64 J := (hd 4 rfl).val rfl rfl
        have e13 : y 13 = .int .i64 (J + 1) := (hd 5 rfl).val rfl rfl
        have e14 : y 14 = .int .i64 X4 := (hd 6 rfl).val rfl rfl
        have e15 : y 15 = .int .i64 (7 * X4) := (hd 7 rfl).val rfl rfl
        have e16 : y 16 = .int .i64 (1 + 7 * X4) := (hd 8 rfl).val rfl rfl
        have e17 : y 17 = .agg #[.int .i64 3, .int .i64 W7, .int .i64 (1 + 7 * X4)] := (hd 9 rfl).val rfl rfl
        have e18 : y 18 = .slice A N c := (hd 10 rfl).val rfl rfl
        have e19 : y 19 = .int .i64 J := (hd 11 rfl).val rfl rfl
        have e20 : y 20 = .int .i64 (J + 1) := (hd 12 rfl).val rfl rfl
        have e21 : y 21 = .int .i64 X28 := (hd 13 rfl).val rfl rfl
        have e22 : y 22 = .int .i64 (1 + X28) := (hd 14 rfl).val rfl rfl
        have e23 : y 23 = .agg #[.int .i64 1, .int .i64 0, .int .i64 (1 + X28)] := (hd 15 rfl).val rfl rfl
        have x16 : (fun (y : Nat → Value) (W : World) => ∃ g, y 24 = .slice (some ⟨g, 0, none⟩) 3 3 ∧ g ≠ w.heap.size ∧ Blk W g 41 #[.int .i64 2, .int .i64 W7, .int .i64 0, .int .i64 3, .int .i64 W7, .int .i64 (1 + 7 * X4), .int .i64 1, .int .i64 0, .int .i64 (1 + X28)]) y W := (hd 16 rfl).ex rfl
        have e25 : y 25 = .slice A N c := (hd 17 rfl).val rfl rfl
        have e26 : y 26 = .int .i64 J := (hd 18 rfl).val rfl rfl
        have e27 : y 27 = .int .i64 (J + 2) := (hd 19 rfl).val rfl rfl
        have e28 : y 28 = .int .i64 1 := (hd 20 rfl).val rfl rfl
        have x21 : (fun (y : Nat → Value) (W : World) => ∃ g, y 29 = .pointer (some ⟨g, 3, none⟩) ∧ g ≠ w.heap.size ∧ Blk W g 41 #[.int .i64 2, .int .i64 W7, .int .i64 0, .int .i64 3, .int .i64 W7, .int .i64 (1 + 7 * X4), .int .i64 1, .int .i64 0, .int .i64 (1 + X28)]) y W := (hd 21 rfl).ex rfl
        have e30 : y 30 = .agg #[.int .i64 3, .int .i64 W7, .int .i64 (1 + 7 * X4)] := (hd 22 rfl).val rfl rfl
        clear hd
        obtain ⟨hb, hc, a, b, d, hr⟩ := hS
        have k0 := (hr.cell 0).trans rfl
        have k1 := (hr.cell 1).trans rfl
        have k2 := (hr.cell 2).trans rfl
        have f0 := hr.frozen 0
        have f1 := hr.frozen 1
        have f2 := hr.frozen 2
        have hr3 := ((hr.set_ 0 (.int .i64 3)).set_ 1 (.int .i64 W7)).set_ 2 (.int .i64 (1 + 7 * X4))
        have hb3 := ((hb.setCell (p := ⟨w.heap.size, 0, none⟩) (Nat.le_refl _) (.int .i64 3)).setCell (p := ⟨w.heap.size, 1, none⟩) (Nat.le_refl _) (.int .i64 W7)).setCell (p := ⟨w.heap.size, 2, none⟩) (Nat.le_refl _) (.int .i64 (1 + 7 * X4))
        go_simp
        exact hK.out undef _ _ (by first | rfl | (simp only [e8, e9, e10, e11, e12, e13, e14, e15, e16, e17, e18, e19, e20, e21, e22, e23, e25, e26, e27, e28, e30]; done) | (simp only [e8, e9, e10, e11, e12, e13, e14, e15, e16, e17, e18, e19, e20, e21, e22, e23, e25, e26, e27, e28, e30]; rfl)) (fun g _ _ hg h => ((h.far hg _).far hg _).far hg _) ⟨hb3, hS2 hb3, _, _, _, hr3⟩ hr3
      exact StepsOk.nil
  · go_enter Tryd.func104, Tryd.ntmps104
    go_wp2_with fail
    refine (c1.out _ hb0).mono ?_
    rintro e w1 ⟨rfl, rfl⟩
    go_upto_region 2 with fail
    refine wp_region_shape [(some 8, []), (some 9, [0]), (some 10, []), (some 11, []), (some 12, []), (some 13, [4]), (some 14, [3, 5]), (some 15, [6]), (some 16, [7]), (some 17, [2, 8]), (some 18, []), (some 19, []), (some 20, [11]), (some 21, [10, 12, 6]), (some 22, [13]), (some 23, [14]), (some 24, [1, 9, 15]), (some 25, []), (some 26, []), (some 27, [18]), (some 28, [17, 19, 13]), (some 29, [16, 20]), (some 30, [21]), (none, [22, 20, 0, 1, 2, 3, 4, 5, 6, 7, 8, 9, 10, 11, 12, 13, 14, 15, 16, 17, 18, 19, 20, 21, 22])] (fun y => { tmps := #[.int .i64 J, .pointer (some ⟨B, 0, none⟩), undef, .pointer (some ⟨w.heap.size, 0, none⟩), .int .i64 W7, .slice A N c, .int .i64 J, .int .i64 W7, y 8, y 9, y 10, y 11, y 12, y 13, y 14, y 15, y 16, y 17, y 18, y 19, y 20, y 21, y 22, y 23, y 24, y 25, y 26, y 27, y 28, y 29, y 30], defers := [] }) (fun _ => undef) (fun j => j == 16 || j == 21 || j == 23) [.int .i64 W7, .agg #[.int .i64 2, .int .i64 W7, .int .i64 0], .int .i64 W7, .slice A N c, .int .i64 J, .int .i64 (J + 1), .int .i64 X4, .int .i64 (7 * X4), .int .i64 (1 + 7 * X4), .agg #[.int .i64 3, .int .i64 W7, .int .i64 (1 + 7 * X4)], .slice A N c, .int .i64 J, .int .i64 (J + 1), .int .i64 X28, .int .i64 (1 + X28), .agg #[.int .i64 1, .int .i64 0, .int .i64 (1 + X28)], undef, .slice A N c, .int .i64 J, .int .i64 (J + 2), .int .i64 2, undef, .agg #[.int .i64 1, .int .i64 0, .int .i64 (1 + X28)], undef] (fun j y W => match j with | 16 => ∃ g, y 24 = .slice (some ⟨g, 0, none⟩) 3 3 ∧ g ≠ w.heap.size ∧ Blk W g 41 #[.int .i64 2, .int .i64 W7, .int .i64 0, .int .i64 3, .int .i64 W7, .int .i64 (1 + 7 * X4), .int .i64 1, .int .i64 0, .int .i64 (1 + X28)] | 21 => ∃ g, y 29 = .pointer (some ⟨g, 6, none⟩) ∧ g ≠ w.heap.size ∧ Blk W g 41 #[.int .i64 2, .int .i64 W7, .int .i64 0, .int .i64 3, .int .i64 W7, .int .i64 (1 + 7 * X4), .int .i64 1, .int .i64 0, .int .i64 (1 + X28)] | 23 => Blk W w.heap.size 41 #[.int .i64 1, .int .i64 0, .int .i64 (1 + X28)] | _ => True) (fun j => match j with | 16 => [24] | 21 => [29] | 23 => [] | _ => []) (fun W W' => ∀ g t cs, g ≠ w.heap.size → Blk W g t cs → Blk W' g t cs) (fun W => Below w.heap.size w W ∧ W.cell? ⟨B, 0, none⟩ = some (.slice A N c) ∧ ∃ a b d, Blk W w.heap.size 41 #[a, b, d]) (by kernel_rfl) (by kernel_rfl) (by decide +kernel) rfl ⟨hb0.drew, HC.out _ hb0.drew, _, _, _, hR0⟩ ?hput ?hloc ?hmono ?hstep ?hdone
    case hput =>
      intro d hd y v
      simp only [List.filterMap_cons, List.filterMap_nil, List.mem_cons, List.not_mem_nil, or_false] at hd
      rcases hd with rfl | rfl | rfl | rfl | rfl | rfl | rfl | rfl | rfl | rfl | rfl | rfl | rfl | rfl | rfl | rfl | rfl | rfl | rfl | rfl | rfl | rfl | rfl
      all_goals rfl
    case hloc =>
      intro j hj y y' W hk hx
      have hj' : j = 16 ∨ j = 21 ∨ j = 23 := by simpa [or_assoc] using hj
      rcases hj' with rfl | rfl | rfl
      · simp only [List.forall_mem_cons, List.not_mem_nil, false_imp_iff, implies_true, and_true] at hk
        show _
        simpa only [hk] using hx
      · simp only [List.forall_mem_cons, List.not_mem_nil, false_imp_iff, implies_true, and_true] at hk
        show _
        simpa only [hk] using hx
      · skip
        exact hx
    case hmono =>
      intro j hj hlast y W W' hg hx
      have hj' : j = 16 ∨ j = 21 ∨ j = 23 := by simpa [or_assoc] using hj
      rcases hj' with rfl | rfl | rfl
      · exact pass_g hg hx
      · exact pass_g hg hx
      · exact absurd hlast (by decide)
    case hdone =>
      intro y W hS hd
      have x23 : (fun (y : Nat → Value) (W : World) => Blk W w.heap.size 41 #[.int .i64 1, .int .i64 0, .int .i64 (1 + X28)]) y W := (hd 23 (by decide)).ex rfl
      obtain ⟨hb, hc, a, b, d, hr⟩ := hS
      have r0 := x23.cell 0
      have r1 := x23.cell 1
      have r2 := x23.cell 2
      go_wp2_with fail
      exact bodyPost_ret (v := .agg #[.int .i64 1, .int .i64 0, .int .i64 (1 + X28)]) (by simp [results, Tryd.results104, go_sem, r0, r1, r2]) rfl ⟨rfl, hb⟩
    case hstep =>
      refine StepsOk.cons (StepOk.known rfl fun y W hS hd K' hK => ?_) ?_
      · skip
        clear hd
        go_simp
        exact hK.out _ _ rfl (fun _ _ _ _ h => h) hS
      refine StepsOk.cons (StepOk.known rfl fun y W hS hd K' hK => ?_) ?_
      · skip
        have e8 : y 8 = .int .i64 W7 := (hd 0 rfl).val rfl rfl
        clear hd
        go_simp
        exact hK.out _ _ (by first | rfl | (simp only [e8]; done) | (simp only [e8]; rfl)) (fun _ _ _ _ h => h) hS
      refine StepsOk.cons (StepOk.known rfl fun y W hS hd K' hK => ?_) ?_
      · skip
        clear hd
        go_simp
        exact hK.out _ _ rfl (fun _ _ _ _ h => h) hS
      refine StepsOk.cons (StepOk.known rfl fun y W hS hd K' hK => ?_) ?_
      · skip
        clear hd
        have hc := hS.2.1
        go_simp
        exact hK.out _ _ rfl (fun _ _ _ _ h => h) hS
      refine StepsOk.cons (StepOk.known rfl fun y W hS hd K' hK => ?_) ?_
      · skip
        clear hd
        go_simp
        exact hK.out _ _ rfl (fun _ _ _ _ h => h) hS
      refine StepsOk.cons (StepOk.known rfl fun y W hS hd K' hK => ?_) ?_
      · skip
        have e12 : y 12 = .int .i64 J := (hd 4 rfl).val rfl rfl
        clear hd
        go_simp
        exact hK.out _ _ (by first | rfl | (simp only [e12]; done) | (simp only [e12]; rfl)) (fun _ _ _ _ h => h) hS
      refine StepsOk.cons (StepOk.known rfl fun y W hS hd K' hK => ?_) ?_
      · skip
        have e11 : y 11 = .slice A N c := (hd 3 rfl).val rfl rfl
        have e13 : y 13 = .int .i64 (J + 1) := (hd 5 rfl).val rfl rfl
        clear hd
        go_simp
        refine (c2.out _ hS.1).mono ?_
        rintro e W' ⟨rfl, rfl⟩
        go_wp2_with fail
        exact hK.out _ _ (by first | rfl | (simp only [e11, e13]; done) | (simp only [e11, e13]; rfl)) (fun _ _ _ _ h => h) hS
      refine StepsOk.cons (StepOk.known rfl fun y W hS hd K' hK => ?_) ?_
      · skip
        have e14 : y 14 = .int .i64 X4 := (hd 6 rfl).val rfl rfl
        clear hd
        go_simp
        exact hK.out _ _ (by first | rfl | (simp only [e14]; done) | (simp only [e14]; rfl)) (fun _ _ _ _ h => h) hS
      refine StepsOk.cons (StepOk.known rfl fun y W hS hd K' hK => ?_) ?_
      · skip
        have e15 : y 15 = .int .i64 (7 * X4) := (hd 7 rfl).val rfl rfl
        clear hd
        go_simp
        exact hK.out _ _ (by first | rfl | (simp only [e15]; done) | (simp only [e15]; rfl)) (fun _ _ _ _ h => h) hS
      refine StepsOk.cons (StepOk.known rfl fun y W hS hd K' hK => ?_) ?_
      · skip
        have e10 : y 10 = .int .i64 W7 := (hd 2 rfl).val rfl rfl
        have e16 : y 16 = .int .i64 (1 + 7 * X4) := (hd 8 rfl).val rfl rfl
        clear hd
        go_simp
        exact hK.out _ _ (by first | rfl | (simp only [e10, e16]; done) | (simp only [e10, e16]; rfl)) (fun _ _ _ _ h => h) hS
      refine StepsOk.cons (StepOk.known rfl fun y W hS hd K' hK => ?_) ?_
      · skip
        clear hd
        have hc := hS.2.1
        go_simp
        exact hK.out _ _ rfl (fun _ _ _ _ h => h) hS
      refine StepsOk.cons (StepOk.known rfl fun y W hS hd K' hK => ?_) ?_
      · skip
        clear hd
        go_simp
        exact hK.out _ _ rfl (fun _ _ _ _ h => h) hS
      refine StepsOk.cons (StepOk.known rfl fun y W hS hd K' hK => ?_) ?_
      · skip
        have e19 : y 19 = .int .i64 J := (hd 11 rfl).val rfl rfl
        clear hd
        go_simp
        exact hK.out _ _ (by first | rfl | (simp only [e19]; done) | (simp only [e19]; rfl)) (fun _ _ _ _ h => h) hS
      refine StepsOk.cons (StepOk.known rfl fun y W hS hd K' hK => ?_) ?_
      · skip
        have e14 : y 14 = .int .i64 X4 := (hd 6 rfl).val rfl rfl
        have e18 : y 18 = .slice A N c := (hd 10 rfl).val rfl rfl
        have e20 : y 20 = .int .i64 (J + 1) := (hd 12 rfl).val rfl rfl
        clear hd
        go_simp
        refine (c3.out _ hS.1).mono ?_
        rintro e W' ⟨rfl, rfl⟩
        go_wp2_with fail
        exact hK.out _ _ (by first | rfl | (simp only [e14, e18, e20]; done) | (simp only [e14, e18, e20]; rfl)) (fun _ _ _ _ h => h) hS
      refine StepsOk.cons (StepOk.known rfl fun y W hS hd K' hK => ?_) ?_
      · skip
        have e21 : y 21 = .int .i64 X28 := (hd 13 rfl).val rfl rfl
        clear hd
        go_simp
        exact hK.out _ _ (by first | rfl | (simp only [e21]; done) | (simp only [e21]; rfl)) (fun _ _ _ _ h => h) hS
      refine StepsOk.cons (StepOk.known rfl fun y W hS hd K' hK => ?_) ?_
      · skip
        have e22 : y 22 = .int .i64 (1 + X28) := (hd 14 rfl).val rfl rfl
        clear hd
        go_simp
        exact hK.out _ _ (by first | rfl | (simp only [e22]; done) | (simp only [e22]; rfl)) (fun _ _ _ _ h => h) hS
      refine StepsOk.cons (StepOk.other rfl fun y W hS hd K' hK => ?_) ?_
      · skip
        have e9 : y 9 = .agg #[.int .i64 2, .int .i64 W7, .int .i64 0] := (hd 1 rfl).val rfl rfl
        have e17 : y 17 = .agg #[.int .i64 3, .int .i64 W7, .int .i64 (1 + 7 * X4)] := (hd 9 rfl).val rfl rfl
        have e23 : y 23 = .agg #[.int .i64 1, .int .i64 0, .int .i64 (1 + X28)] := (hd 15 rfl).val rfl rfl
        clear hd
        obtain ⟨hb, hc, a, b, d, hr⟩ := hS
        go_simp
        exact hK.out _ _ _ (by first | rfl | (simp only [e9, e17, e23]; done) | (simp only [e9, e17, e23]; rfl)) (fun _ _ _ _ h => h.alloc _) ⟨hb.alloc hb.size _, (hS2 (hb.alloc hb.size _)), a, b, d, hr.alloc _⟩ (show ∃ g, _ = Value.slice (some ⟨g, 0, none⟩) 3 3 ∧ g ≠ w.heap.size ∧ Blk _ g 41 #[.int .i64 2, .int .i64 W7, .int .i64 0, .int .i64 3, .int .i64 W7, .int .i64 (1 + 7 * X4), .int .i64 1, .int .i64 0, .int .i64 (1 + X28)] from ⟨_, rfl, by have := hr.lt; omega, Blk.new W _ _⟩)
      refine StepsOk.cons (StepOk.known rfl fun y W hS hd K' hK => ?_) ?_
      · skip
        clear hd
        have hc := hS.2.1
        go_simp
        exact hK.out _ _ rfl (fun _ _ _ _ h => h) hS
      refine StepsOk.cons (StepOk.known rfl fun y W hS hd K' hK => ?_) ?_
      · skip
        clear hd
        go_simp
        exact hK.out _ _ rfl (fun _ _ _ _ h => h) hS
      refine StepsOk.cons (StepOk.known rfl fun y W hS hd K' hK => ?_) ?_
      · skip
        have e26 : y 26 = .int .i64 J := (hd 18 rfl).val rfl rfl
        clear hd
        go_simp
        exact hK.out _ _ (by first | rfl | (simp only [e26]; done) | (simp only [e26]; rfl)) (fun _ _ _ _ h => h) hS
      refine StepsOk.cons (StepOk.known rfl fun y W hS hd K' hK => ?_) ?_
      · skip
        have e21 : y 21 = .int .i64 X28 := (hd 13 rfl).val rfl rfl
        have e25 : y 25 = .slice A N c := (hd 17 rfl).val rfl rfl
        have e27 : y 27 = .int .i64 (J + 2) := (hd 19 rfl).val rfl rfl
        clear hd
        go_simp
        refine (c4.out _ hS.1).mono ?_
        rintro e W' ⟨rfl, rfl⟩
        go_wp2_with fail
        exact hK.out _ _ (by first | rfl | (simp only [e21, e25, e27]; done) | (simp only [e21, e25, e27]; rfl)) (fun _ _ _ _ h => h) hS
      refine StepsOk.cons (StepOk.other rfl fun y W hS hd K' hK => ?_) ?_
      · skip
        have x16 : (fun (y : Nat → Value) (W : World) => ∃ g, y 24 = .slice (some ⟨g, 0, none⟩) 3 3 ∧ g ≠ w.heap.size ∧ Blk W g 41 #[.int .i64 2, .int .i64 W7, .int .i64 0, .int .i64 3, .int .i64 W7, .int .i64 (1 + 7 * X4), .int .i64 1, .int .i64 0, .int .i64 (1 + X28)]) y W := (hd 16 rfl).ex rfl
        have e28 : y 28 = .int .i64 2 := (hd 20 rfl).val rfl rfl
        clear hd
        obtain ⟨g, h1, h2, h3⟩ := x16
        go_simp
        exact hK.out _ _ _ (by first | rfl | (simp only [e28, h1]; done) | (simp only [e28, h1]; rfl)) (fun _ _ _ _ h => h) hS (show ∃ g, _ = Value.pointer (some ⟨g, 6, none⟩) ∧ g ≠ w.heap.size ∧ Blk W g 41 #[.int .i64 2, .int .i64 W7, .int .i64 0, .int .i64 3, .int .i64 W7, .int .i64 (1 + 7 * X4), .int .i64 1, .int .i64 0, .int .i64 (1 + X28)] from ⟨g, rfl, h2, h3⟩)
      refine StepsOk.cons (StepOk.known rfl fun y W hS hd K' hK => ?_) ?_
      · skip
        have x21 : (fun (y : Nat → Value) (W : World) => ∃ g, y 29 = .pointer (some ⟨g, 6, none⟩) ∧ g ≠ w.heap.size ∧ Blk W g 41 #[.int .i64 2, .int .i64 W7, .int .i64 0, .int .i64 3, .int .i64 W7, .int .i64 (1 + 7 * X4), .int .i64 1, .int .i64 0, .int .i64 (1 + X28)]) y W := (hd 21 rfl).ex rfl
        clear hd
        obtain ⟨g, h1, h2, h3⟩ := x21
        have k0 := (h3.cell 6).trans rfl
        have k1 := (h3.cell 7).trans rfl
        have k2 := (h3.cell 8).trans rfl
        go_simp
        exact hK.out _ _ (by first | rfl | (simp only [h1]; done) | (simp only [h1]; rfl)) (fun _ _ _ _ h => h) hS
      refine StepsOk.cons (StepOk.other rfl fun y W hS hd K' hK => ?_) ?_
      · skip
        have e8 : y 8 = .int .i64 W7 := (hd 0 rfl).val rfl rfl
        have e9 : y 9 = .agg #[.int .i64 2, .int .i64 W7, .int .i64 0] := (hd 1 rfl).val rfl rfl
        have e10 : y 10 = .int .i64 W7 := (hd 2 rfl).val rfl rfl
        have e11 : y 11 = .slice A N c := (hd 3 rfl).val rfl rfl
        have e12 : y 12 = .int .i64 J := (hd 4 rfl).val rfl rfl
        have e13 : y 13 = .int .i64 (J + 1) := (hd 5 rfl).val rfl rfl
        have e14 : y 14 = .int .i64 X4 := (hd 6 rfl).val rfl rfl
        have e15 : y 15 = .int .i64 (7 * X4) := (hd 7 rfl).val rfl rfl
        have e16 : y 16 = .int .i64 (1 + 7 * X4) := (hd 8 rfl).val rfl rfl
        have e17 : y 17 = .agg #[.int .i64 3, .int .i64 W7, .int .i64 (1 + 7 * X4)] := (hd 9 rfl).val rfl rfl
        have e18 : y 18 = .slice A N c := (hd 10 rfl).val rfl rfl
        have e19 : y 19 = .int .i64 J := (hd 11 rfl).val rfl rfl
        have e20 : y 20 = .int .i64 (J + 1) := (hd 12 rfl).val rfl rfl
        have e21 : y 21 = .int .i64 X28 := (hd 13 rfl).val rfl rfl
        have e22 : y 22 = .int .i64 (1 + X28) := (hd 14 rfl).val rfl rfl
        have e23 : y 23 = .agg #[.int .i64 1, .int .i64 0, .int .i64 (1 + X28)] := (hd 15 rfl).val rfl rfl
        have x16 : (fun (y : Nat → Value) (W : World) => ∃ g, y 24 = .slice (some ⟨g, 0, none⟩) 3 3 ∧ g ≠ w.heap.size ∧ Blk W g 41 #[.int .i64 2, .int .i64 W7, .int .i64 0, .int .i64 3, .int .i64 W7, .int .i64 (1 + 7 * X4), .int .i64 1, .int .i64 0, .int .i64 (1 + X28)]) y W := (hd 16 rfl).ex rfl
        have e25 : y 25 = .slice A N c := (hd 17 rfl).val rfl rfl
        have e26 : y 26 = .int .i64 J := (hd 18 rfl).val rfl rfl
        have e27 : y 27 = .int .i64 (J + 2) := (hd 19 rfl).val rfl rfl
        have e28 : y 28 = .int .i64 2 := (hd 20 rfl).val rfl rfl
        have x21 : (fun (y : Nat → Value) (W : World) => ∃ g, y 29 = .pointer (some ⟨g, 6, none⟩) ∧ g ≠ w.heap.size ∧ Blk W g 41 #[.int .i64 2, .int .i64 W7, .int .i64 0, .int .i64 3, .int .i64 W7, .int .i64 (1 + 7 * X4), .int .i64 1, .int .i64 0, .int .i64 (1 + X28)]) y W := (hd 21 rfl).ex rfl
        have e30 : y 30 = .agg #[.int .i64 1, .int .i64 0, .int .i64 (1 + X28)] := (hd 22 rfl).val rfl rfl
        clear hd
        obtain ⟨hb, hc, a, b, d, hr⟩ := hS
        have k0 := (hr.cell 0).trans rfl
        have k1 := (hr.cell 1).trans rfl
        have k2 := (hr.cell 2).trans rfl
        have f0 := hr.frozen 0
        have f1 := hr.frozen 1
        have f2 := hr.frozen 2
        have hr3 := ((hr.set_ 0 (.int .i64 1)).set_ 1 (.int .i64 0)).set_ 2 (.int .i64 (1 + X28))
        have hb3 := ((hb.setCell (p := ⟨w.heap.size, 0, none⟩) (Nat.le_refl _) (.int .i64 1)).setCell (p := ⟨w.heap.size, 1, none⟩) (Nat.le_refl _) (.int .i64 0)).setCell (p := ⟨w.heap.size, 2, none⟩) (Nat.le_refl _) (.int .i64 (1 + X28))
        go_simp
        exact hK.out undef _ _ (by first | rfl | (simp only [e8, e9, e10, e11, e12, e13, e14, e15, e16, e17, e18, e19, e20, e21, e22, e23, e25, e26, e27, e28, e30]; done) | (simp only [e8, e9, e10, e11, e12, e13, e14, e15, e16, e17, e18, e19, e20, e21, e22, e23, e25, e26, e27, e28, e30]; rfl)) (fun g _ _ hg h => ((h.far hg _).far hg _).far hg _) ⟨hb3, hS2 hb3, _, _, _, hr3⟩ hr3
      exact StepsOk.nil
end Go.Proofs.YtlideagcmhlkeaaDoor
