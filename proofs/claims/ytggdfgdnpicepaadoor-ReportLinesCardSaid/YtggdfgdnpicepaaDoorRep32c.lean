/- The walk of report.Text (chapter 32). -/
import Derived.Test.YtggdfgdnpicepaaDoorRep32b
import Derived.Shelf.Strings.BuilderK
import Derived.Lib.ItoaNum
import Derived.Lib.LaidTab
import Derived.Lib.AppendIntMem
import Derived.Deep.RegionHeld3
namespace Go.Proofs.YtggdfgdnpicepaaDoor
open Go.RowKit
set_option linter.unusedVariables false

theorem gPow : Tryd.prog.globalNamed "internal/strconv.uint64pow10" = some 6 := by kernel_rfl
theorem var_below {P : Program} {B g : Nat} {W W' : World} {n : String} {cs : Array Value} (h : Below B W W') (hg : P.globalNamed n = some g) (hgB : g < B) (hv : W.var? P n = some cs) : W'.var? P n = some cs := by
  unfold World.var? at hv ⊢
  simp only [hg, Option.bind_some] at hv ⊢
  rw [h.block g hgB]
  exact hv
/-- the variables: the table of powers of ten, the words -/
structure Vars (w : World) : Prop where
  pow : Lib.TabIs Tryd.prog w "internal/strconv.uint64pow10" .u64 Lib.pow10Tab
  words : ∀ j u, (#[.int .i64 1, .string ⟨#[115, 97, 118, 101]⟩, .int .i64 2, .string ⟨#[97, 116]⟩, .int .i64 4, .string ⟨#[111, 102, 102]⟩, .int .i64 8, .string ⟨#[102, 111, 114, 109, 97, 116]⟩, .int .i64 16, .string ⟨#[117, 110, 116, 105, 108]⟩] : Array Value)[j]? = some u → w.cell? ⟨0, j, none⟩ = some u
  big : 6 < w.heap.size ∧ 0 < w.heap.size
theorem Vars.below {w w' : World} (h : Vars w) (hb : Below w.heap.size w w') : Vars w' :=
  ⟨var_below hb gPow h.big.1 h.pow, fun j u hu => (hb.cell (p := ⟨0, j, none⟩) h.big.2).trans (h.words j u hu), Nat.lt_of_lt_of_le h.big.1 hb.size, Nat.lt_of_lt_of_le h.big.2 hb.size⟩
theorem itoa_pos (i : Int) (w : World) (h0 : 0 ≤ i) (h1 : i ≤ 9223372036854775807) (hv : Vars w) :
    Calls Tryd.prog 52 #[.int .i64 i] w fun e w' => e = .returned (.string (str (Lib.decDigits i.toNat))) ∧ Below w.heap.size w w' := by
  refine (Tryd.strconv_Itoa i (by omega) h1 w hv.pow).mono ?_
  rintro e w' ⟨rfl, k, os, rfl⟩
  refine ⟨by simp only [Lib.itoa]; rw [if_neg (by omega)]; rfl, Lib.below_grow _ _ (Nat.le_refl _) _ _⟩
theorem Blk.others {w w' : World} {g : Nat} {t e : TypeId} {b : Nat} {cs : Array Value} (h : Blk w g t cs) (hk : Lib.OthersKept e (some b) w w') (hg : g ≠ b) (ht : t ≠ e) : Blk w' g t cs :=
  hk g _ h (fun q => hg (Option.some.inj q)) (fun c fz q => by injection q with _ q _; exact ht q)
theorem bld_below {w w' : World} {B b : Nat} {l : List UInt8} (h : Bld w B b l) (hb : Below w.heap.size w w') : Bld w' B b l := by
  have key : ∀ p, Lib.BuilderAtF 98 5 B b p (Lib.byteCells l) w → Lib.BuilderAtF 98 5 B b p (Lib.byteCells l) w' := by
    rintro p ⟨h1, v, h2, h3, h4⟩
    have lt : ∀ {g : Nat} {o : Obj}, w.heap[g]? = some o → g < w.heap.size := by
      intro g o hg
      rcases Nat.lt_or_ge g w.heap.size with q | q
      · exact q
      · rw [Array.getElem?_eq_none q] at hg; cases hg
    refine ⟨h1, v, (hb.block b (lt h2)).trans h2, ⟨h3.1, ?_⟩, h4⟩
    rcases h3.2 with q | ⟨g, cap, cur, fz, hv, hB, hg, r⟩
    · exact .inl q
    · exact .inr ⟨g, cap, cur, fz, hv, hB, (hb.block g (lt hg)).trans hg, r⟩
  rcases h with h | h
  · exact .inl (key _ h)
  · exact .inr (key _ h)
theorem bld_alloc {w : World} {B b : Nat} {l : List UInt8} (h : Bld w B b l) (o : Obj) : Bld (w.alloc o) B b l := bld_below h ((Below.refl _ _).alloc (Nat.le_refl _) o)
theorem bld_new (w : World) : Bld (w.alloc (.cells #[.pointer none, .slice none 0 0] 98)) w.heap.size w.heap.size [] :=
  .inl ⟨Nat.le_refl _, _, heap_alloc_new w _, ⟨rfl, .inl ⟨rfl, rfl⟩⟩, fun q => by simp [Value.ownBlock] at q⟩
/-- the words that a sum names -/
def wordsL (x : Int) (k : Nat) : List UInt8 := (([(1, [115, 97, 118, 101]), (2, [97, 116]), (4, [111, 102, 102]), (8, [102, 111, 114, 109, 97, 116]), (16, [117, 110, 116, 105, 108])] : List (Int × List UInt8)).take k).flatMap fun t => P32.wordL (P32.bit x t.1) t.2
theorem wordsL_len (x : Int) (k : Nat) : (wordsL x k).length ≤ 40 := by
  have key : ∀ b1 b2 b3 b4 b5 : Bool, ∀ k, k < 6 → (((([(b1, [115, 97, 118, 101]), (b2, [97, 116]), (b3, [111, 102, 102]), (b4, [102, 111, 114, 109, 97, 116]), (b5, [117, 110, 116, 105, 108])] : List (Bool × List UInt8)).take k).flatMap fun t => P32.wordL t.1 t.2)).length ≤ 40 := by decide +kernel
  have hk : wordsL x k = wordsL x (min k 5) := by
    unfold wordsL
    rcases Nat.le_total k 5 with h | h
    · rw [Nat.min_eq_left h]
    · rw [Nat.min_eq_right h, List.take_of_length_le (by simpa using h), List.take_of_length_le (by simp)]
  rw [hk]
  have q := key (P32.bit x 1) (P32.bit x 2) (P32.bit x 4) (P32.bit x 8) (P32.bit x 16) (min k 5) (by omega)
  have e : wordsL x (min k 5) = ((([(P32.bit x 1, [115, 97, 118, 101]), (P32.bit x 2, [97, 116]), (P32.bit x 4, [111, 102, 102]), (P32.bit x 8, [102, 111, 114, 109, 97, 116]), (P32.bit x 16, [117, 110, 116, 105, 108])] : List (Bool × List UInt8)).take (min k 5)).flatMap fun t => P32.wordL t.1 t.2) := by
    have hm : min k 5 ≤ 5 := Nat.min_le_right _ _
    generalize min k 5 = m at hm
    match m, hm with
    | 0, _ | 1, _ | 2, _ | 3, _ | 4, _ | 5, _ => rfl
  rw [e]; exact q
theorem wordsL_succ (x : Int) (k : Nat) (t : Int × List UInt8) (h : ([(1, [115, 97, 118, 101]), (2, [97, 116]), (4, [111, 102, 102]), (8, [102, 111, 114, 109, 97, 116]), (16, [117, 110, 116, 105, 108])] : List (Int × List UInt8))[k]? = some t) : wordsL x (k + 1) = wordsL x k ++ P32.wordL (P32.bit x t.1) t.2 := by
  unfold wordsL
  rw [List.take_add_one, h, List.flatMap_append]
  simp
theorem bits_bit (x : Int) (h0 : 0 ≤ x) (h1 : x ≤ 31) (b : Int) (hb : b ∈ [1, 2, 4, 8, 16]) : (bits .and .i64 x b != 0) = P32.bit x b := by
  have key : ∀ n < 32, ∀ b ∈ ([1, 2, 4, 8, 16] : List Int), (bits .and .i64 ((n : Nat) : Int) b != 0) = P32.bit (n : Int) b := by decide +kernel
  obtain ⟨n, rfl⟩ := Int.eq_ofNat_of_zero_le h0
  exact key n (by omega) b hb
theorem line_words (c : P32.CV) (h : P32.right c) : P32.line c = (if c.part = 1 then [114, 117, 108, 101, 32] ++ Lib.decDigits c.index.toNat else [101, 114, 97, 32] ++ Lib.decDigits c.index.toNat ++ [32] ++ Lib.decDigits c.era.toNat) ++ (wordsL c.what 5 ++ [10]) := by
  have key : ∀ n < 32, (1 ≤ n ∧ n ≤ 3 → P32.wordL (P32.bit ((n : Nat) : Int) 1) [115, 97, 118, 101] ++ P32.wordL (P32.bit (n : Int) 2) [97, 116] = wordsL (n : Int) 5) ∧ (n % 4 = 0 → P32.wordL (P32.bit (n : Int) 4) [111, 102, 102] ++ P32.wordL (P32.bit (n : Int) 8) [102, 111, 114, 109, 97, 116] ++ P32.wordL (P32.bit (n : Int) 16) [117, 110, 116, 105, 108] = wordsL (n : Int) 5) := by decide +kernel
  obtain ⟨p, i, e, x⟩ := c
  rcases h with ⟨rfl, h1, h2, h3, h4⟩ | ⟨rfl, h1, h2, h3, h4, h5⟩
  · simp only at h1 h2 h3 h4
    obtain ⟨n, rfl⟩ := Int.eq_ofNat_of_zero_le (show 0 ≤ x by omega)
    have q := (key n (by omega)).1 (by omega)
    unfold P32.line
    rw [if_pos rfl, if_pos rfl, P32.lineR]
    simp only at *
    rw [← q]
    simp only [List.append_assoc]
  · simp only at h1 h2 h3 h4 h5
    obtain ⟨n, rfl⟩ := Int.eq_ofNat_of_zero_le (show 0 ≤ x by omega)
    have q := (key n (by omega)).2 (by omega)
    unfold P32.line
    rw [if_neg (show ¬ (2 : Int) = 1 by decide), if_neg (show ¬ (2 : Int) = 1 by decide), P32.lineE]
    simp only at *
    rw [← q]
    simp only [List.append_assoc]

theorem idx5_0 : ∀ w : World, (Instr.index 105 (.agg #[.int .i64 1, .string ⟨#[115, 97, 118, 101]⟩, .int .i64 2, .string ⟨#[97, 116]⟩, .int .i64 4, .string ⟨#[111, 102, 102]⟩, .int .i64 8, .string ⟨#[102, 111, 114, 109, 97, 116]⟩, .int .i64 16, .string ⟨#[117, 110, 116, 105, 108]⟩]) (.int .i64 0)).run Tryd.prog w = .ok (.agg #[.int .i64 1, .string ⟨#[115, 97, 118, 101]⟩]) w := by intro w; kernel_rfl
theorem idx5_1 : ∀ w : World, (Instr.index 105 (.agg #[.int .i64 1, .string ⟨#[115, 97, 118, 101]⟩, .int .i64 2, .string ⟨#[97, 116]⟩, .int .i64 4, .string ⟨#[111, 102, 102]⟩, .int .i64 8, .string ⟨#[102, 111, 114, 109, 97, 116]⟩, .int .i64 16, .string ⟨#[117, 110, 116, 105, 108]⟩]) (.int .i64 1)).run Tryd.prog w = .ok (.agg #[.int .i64 2, .string ⟨#[97, 116]⟩]) w := by intro w; kernel_rfl
theorem idx5_2 : ∀ w : World, (Instr.index 105 (.agg #[.int .i64 1, .string ⟨#[115, 97, 118, 101]⟩, .int .i64 2, .string ⟨#[97, 116]⟩, .int .i64 4, .string ⟨#[111, 102, 102]⟩, .int .i64 8, .string ⟨#[102, 111, 114, 109, 97, 116]⟩, .int .i64 16, .string ⟨#[117, 110, 116, 105, 108]⟩]) (.int .i64 2)).run Tryd.prog w = .ok (.agg #[.int .i64 4, .string ⟨#[111, 102, 102]⟩]) w := by intro w; kernel_rfl
theorem idx5_3 : ∀ w : World, (Instr.index 105 (.agg #[.int .i64 1, .string ⟨#[115, 97, 118, 101]⟩, .int .i64 2, .string ⟨#[97, 116]⟩, .int .i64 4, .string ⟨#[111, 102, 102]⟩, .int .i64 8, .string ⟨#[102, 111, 114, 109, 97, 116]⟩, .int .i64 16, .string ⟨#[117, 110, 116, 105, 108]⟩]) (.int .i64 3)).run Tryd.prog w = .ok (.agg #[.int .i64 8, .string ⟨#[102, 111, 114, 109, 97, 116]⟩]) w := by intro w; kernel_rfl
theorem idx5_4 : ∀ w : World, (Instr.index 105 (.agg #[.int .i64 1, .string ⟨#[115, 97, 118, 101]⟩, .int .i64 2, .string ⟨#[97, 116]⟩, .int .i64 4, .string ⟨#[111, 102, 102]⟩, .int .i64 8, .string ⟨#[102, 111, 114, 109, 97, 116]⟩, .int .i64 16, .string ⟨#[117, 110, 116, 105, 108]⟩]) (.int .i64 4)).run Tryd.prog w = .ok (.agg #[.int .i64 16, .string ⟨#[117, 110, 116, 105, 108]⟩]) w := by intro w; kernel_rfl
theorem bld_lt {w : World} {B b : Nat} {l : List UInt8} (h : Bld w B b l) : b < w.heap.size := by
  have key : ∀ p, Lib.BuilderAtF 98 5 B b p (Lib.byteCells l) w → b < w.heap.size := by
    rintro p ⟨h1, v, h2, _⟩
    rcases Nat.lt_or_ge b w.heap.size with q | q
    · exact q
    · rw [Array.getElem?_eq_none q] at h2; cases h2
  rcases h with h | h <;> exact key _ h
theorem lit_app (a b : List UInt8) (X : ByteArray) (h : X = str a) : X ++ str b = str (a ++ b) := by rw [h, str_append]
/-- what stays while a line is written -/
def Mid (w wr : World) (cs : Array Value) (l : List UInt8) (W : World) : Prop := Bld W w.heap.size w.heap.size l ∧ Blk W wr.heap.size 50 cs ∧ Vars W ∧ Below w.heap.size w W
theorem Mid.below {w wr W W' : World} {cs : Array Value} {l : List UInt8} (h : Mid w wr cs l W) (hb : Below W.heap.size W W') : Mid w wr cs l W' :=
  ⟨bld_below h.1 hb, h.2.1.below hb h.2.1.lt, h.2.2.1.below hb, h.2.2.2.trans (hb.mono h.2.2.2.size)⟩
theorem Mid.alloc {w wr W : World} {cs : Array Value} {l : List UInt8} (h : Mid w wr cs l W) (o : Obj) : Mid w wr cs l (W.alloc o) := h.below ((Below.refl _ _).alloc (Nat.le_refl _) o)
theorem mid_drew {w wr W : World} {cs : Array Value} {l : List UInt8} (h : Mid w wr cs l W) : Mid w wr cs l W.drew := h.below (Below.refl W.heap.size W).drew
theorem mid_write {w wr W W' : World} {cs : Array Value} {l l' : List UInt8} (h : Mid w wr cs l W) (hlt : w.heap.size < wr.heap.size) (hg : 6 < w.heap.size ∧ 0 < w.heap.size) (h1 : Bld W' w.heap.size w.heap.size l') (h2 : Below w.heap.size W W') (h3 : Lib.OthersKept 5 (some w.heap.size) W W') : Mid w wr cs l' W' := by
  have hv := h.2.2.1
  refine ⟨h1, h.2.1.others h3 (by omega) (by decide), ⟨var_below h2 gPow hg.1 hv.pow, fun j u hu => (h2.cell (p := ⟨0, j, none⟩) hg.2).trans (hv.words j u hu), Nat.lt_of_lt_of_le hg.1 (Nat.le_trans h.2.2.2.size h2.size), Nat.lt_of_lt_of_le hg.2 (Nat.le_trans h.2.2.2.size h2.size)⟩, h.2.2.2.trans h2⟩
theorem mid_str {w wr W : World} {cs : Array Value} {l : List UInt8} (h : Mid w wr cs l W) (hlt : w.heap.size < wr.heap.size) (hg : 6 < w.heap.size ∧ 0 < w.heap.size) (s : List UInt8) (X : ByteArray) (hX : X = str s) (hl : l.length ≤ 1000000) (hs : s.length ≤ 1000000) :
    Calls Tryd.prog 51 #[.pointer (some ⟨w.heap.size, 0, none⟩), .string X] W fun e W' => e = .returned (.tuple #[.int .i64 s.length, .nilIface]) ∧ Mid w wr cs (l ++ s) W' := by
  subst hX
  refine (write_str w.heap.size w.heap.size l s W h.1 (by omega) h.2.2.2.size).mono ?_
  rintro e W' ⟨rfl, h1, h2, h3⟩
  exact ⟨rfl, mid_write h hlt hg h1 h2 h3⟩
theorem mid_byte {w wr W : World} {cs : Array Value} {l : List UInt8} (h : Mid w wr cs l W) (hlt : w.heap.size < wr.heap.size) (hg : 6 < w.heap.size ∧ 0 < w.heap.size) (hl : l.length ≤ 1000000) :
    Calls Tryd.prog 53 #[.pointer (some ⟨w.heap.size, 0, none⟩), .int .u8 10] W fun e W' => e = .returned .nilIface ∧ Mid w wr cs (l ++ [10]) W' := by
  refine (write_byte w.heap.size w.heap.size l 10 W h.1 (by omega) h.2.2.2.size).mono ?_
  rintro e W' ⟨rfl, h1, h2, h3⟩
  exact ⟨rfl, mid_write h hlt hg h1 h2 h3⟩
theorem mid_itoa {w wr W : World} {cs : Array Value} {l : List UInt8} (h : Mid w wr cs l W) (i : Int) (h0 : 0 ≤ i) (h1 : i ≤ 9223372036854775807) :
    Calls Tryd.prog 52 #[.int .i64 i] W fun e W' => e = .returned (.string (str (Lib.decDigits i.toNat))) ∧ Mid w wr cs l W' :=
  (itoa_pos i W h0 h1 h.2.2.1).mono fun _ _ ⟨he, hb⟩ => ⟨he, h.below hb⟩
theorem mid_cells {w wr W : World} {p i e x : Int} {l : List UInt8} (h : Mid w wr #[.int .i64 p, .int .i64 i, .int .i64 e, .int .i64 x] l W) : W.cell? ⟨wr.heap.size, 0, none⟩ = some (.int .i64 p) ∧ W.cell? ⟨wr.heap.size, 1, none⟩ = some (.int .i64 i) ∧ W.cell? ⟨wr.heap.size, 2, none⟩ = some (.int .i64 e) ∧ W.cell? ⟨wr.heap.size, 3, none⟩ = some (.int .i64 x) :=
  ⟨(h.2.1.cell 0).trans rfl, (h.2.1.cell 1).trans rfl, (h.2.1.cell 2).trans rfl, (h.2.1.cell 3).trans rfl⟩
def MidX (w wr : World) (cs : Array Value) (W : World) : Prop := ∃ l, Mid w wr cs l W
theorem midx {w wr W : World} {p i e x : Int} {l : List UInt8} (h : Mid w wr #[.int .i64 p, .int .i64 i, .int .i64 e, .int .i64 x] l W) : W.cell? ⟨wr.heap.size, 0, none⟩ = some (.int .i64 p) ∧ W.cell? ⟨wr.heap.size, 1, none⟩ = some (.int .i64 i) ∧ W.cell? ⟨wr.heap.size, 2, none⟩ = some (.int .i64 e) ∧ W.cell? ⟨wr.heap.size, 3, none⟩ = some (.int .i64 x) ∧ MidX w wr #[.int .i64 p, .int .i64 i, .int .i64 e, .int .i64 x] W :=
  ⟨(h.2.1.cell 0).trans rfl, (h.2.1.cell 1).trans rfl, (h.2.1.cell 2).trans rfl, (h.2.1.cell 3).trans rfl, ⟨l, h⟩⟩
set_option maxRecDepth 100000 in
set_option maxHeartbeats 8000000 in
theorem rep_text (A : Option Addr) (c : Nat) (L : List P32.CV) (w : World) (hl : L.length ≤ 1000) (hC : ChIn w A L) (hok : ChOk L) (hv : Vars w) :
    Calls Tryd.prog 20 #[.slice A L.length c] w fun e w' => e = .returned (.tuple #[.string (str (P32.text L).1), .int .i64 (P32.text L).2]) ∧ Below w.heap.size w w' := by
  have hli : (L.length : Int) ≤ 1000 := by omega
  have HOK := Lib.hid hok
  have HV := Lib.hid hv
  have HG := Lib.hid hv.big
  clear hok hv
  obtain ⟨R, hR⟩ : ∃ R, P32.text L = R := ⟨_, rfl⟩
  rw [hR]
  have HR := Lib.hid hR
  clear hR
  have hC0 := hC
  have hB0 := bld_new w
  have hb0 := (Below.refl w.heap.size w).alloc (Nat.le_refl _) (.cells #[.pointer none, .slice none 0 0] 98)
  go_enter Tryd.func20, Tryd.ntmps20
  go_wp2_with fail
  go_loopw [11] (fun i wr => ∃ k : Nat, k ≤ L.length ∧ i = .int .i64 k ∧ Bld wr w.heap.size w.heap.size ((L.take k).flatMap P32.line) ∧ Hid (RtTo L k) ∧ Below w.heap.size w wr) (fun i _ => L.length - (intOf i).toNat)
  case atStart => exact ⟨0, Nat.zero_le _, rfl, hB0, Lib.hid (fun j c h => by omega), hb0⟩
  case round =>
    clear hB0 hb0
    obtain ⟨k, hk, rfl, hB, HT, hb⟩ := hrel
    have HC := Lib.hid (hC0.below hb)
    have hlt0 := bld_lt hB
    clear hC hC0
    by_cases hlt : k < L.length
    · obtain ⟨cv, hcv⟩ : ∃ cv, L[k]? = some cv := ⟨_, List.getElem?_eq_getElem hlt⟩
      obtain ⟨g, o, rfl, hg, hat⟩ := HC.out k cv hcv
      have HAT := Lib.hid hat
      have HN := Lib.hid (fun q => (text_no hcv q).symm.trans HR.out)
      have HF := Lib.hid (flat_take P32.line L k cv hcv)
      have hL1 : ((L.take k).flatMap P32.line).length ≤ 100000 := by
        have q := flat_len (L.take k) (fun d hd => HOK.out d (List.mem_of_mem_take hd))
        have := List.length_take_le k L
        omega
      obtain ⟨hp, hi, he, hx⟩ := HOK.out cv (List.mem_of_getElem? hcv)
      have HT2 := Lib.hid (fun hr => HT.out.succ hcv hr)
      have HLW := Lib.hid (line_words cv)
      clear hat hcv HC
      obtain ⟨p, i, e, x⟩ := cv
      simp only at hp hi he hx
      have a0 : wr.cell? ⟨g, o + k * 4, none⟩ = some (.int .i64 p) := HAT.out 0 _ rfl
      have a1 : wr.cell? ⟨g, o + k * 4 + 1, none⟩ = some (.int .i64 i) := HAT.out 1 _ rfl
      have a2 : wr.cell? ⟨g, o + k * 4 + 2, none⟩ = some (.int .i64 e) := HAT.out 2 _ rfl
      have a3 : wr.cell? ⟨g, o + k * 4 + 3, none⟩ = some (.int .i64 x) := HAT.out 3 _ rfl
      have hki : (k : Int) < (L.length : Int) := by omega
      generalize hS : (L.take k).flatMap P32.line = S at *
      clear hS
      have HM0 : Hid (Mid w wr #[.int .i64 p, .int .i64 i, .int .i64 e, .int .i64 x] S (wr.alloc (.cells #[.int .i64 p, .int .i64 i, .int .i64 e, .int .i64 x] 50))) := Lib.hid ⟨bld_alloc hB _, Blk.new wr _ _, (HV.out.below hb).below ((Below.refl _ _).alloc (Nat.le_refl _) _), hb.alloc hb.size _⟩
      obtain ⟨RR, hRR⟩ : ∃ RR, RR = decide (P32.right ⟨p, i, e, x⟩) := ⟨_, rfl⟩
      have HRR := Lib.hid hRR
      have cR := Lib.hid (fun W => right_any p i e x RR HRR.out W hx)
      clear hRR hB hb HAT HOK
      go_wp2_with fail
      refine (cR.out _).mono ?_
      rintro en w1 ⟨rfl, hc1⟩
      have HM1 := Lib.hid (HM0.out.below hc1)
      clear hc1 HM0 cR a0 a1 a2 a3
      cases RR with
      | false =>
        have hn : ¬ P32.right ⟨p, i, e, x⟩ := of_decide_eq_false HRR.out.symm
        obtain rfl : R = ([], 2) := (HN.out hn).symm
        have hbf := HM1.out.2.2.2
        clear HN HF HT2 HR HT HLW hn HM1 HRR
        go_wp2_with fail
        go_ret2
        exact ⟨rfl, hbf⟩
      | true =>
        have hr : P32.right ⟨p, i, e, x⟩ := of_decide_eq_true HRR.out.symm
        have HT3 := HT2.out hr
        have hl2 := HLW.out hr
        have hx2 : 0 ≤ x ∧ x ≤ 31 := by rcases hr with h | h <;> (simp only [P32.rightR, P32.rightE] at h; omega)
        clear HN HT2 HT HLW HRR HR
        obtain ⟨k0, k1, k2, k3⟩ := mid_cells HM1.out
        obtain ⟨HD, hHD⟩ : ∃ HD : List UInt8, HD = (if p = 1 then [114, 117, 108, 101, 32] ++ Lib.decDigits i.toNat else [101, 114, 97, 32] ++ Lib.decDigits i.toNat ++ [32] ++ Lib.decDigits e.toNat) := ⟨_, rfl⟩
        have HHD := Lib.hid hHD
        have HF2 : Hid ((L.take (k + 1)).flatMap P32.line = S ++ (HD ++ (wordsL x 5 ++ [10]))) := Lib.hid (by rw [HF.out, hl2, hHD])
        have hHl : HD.length ≤ 100 := by
          have d1 := dec_le i.toNat (by omega)
          have d2 := dec_le e.toNat (by omega)
          rw [hHD]; split <;> simp <;> omega
        clear hHD HF hl2
        go_upto_if 21 with (fail)
        go_cut [] (fun wx => Mid w wr #[.int .i64 p, .int .i64 i, .int .i64 e, .int .i64 x] (S ++ HD) wx)
        case first =>
          rcases hr with hr | hr
          · obtain ⟨rfl, h1, h2, h3, h4⟩ := hr
            simp only at h1 h2 h3 h4
            obtain rfl : HD = [114, 117, 108, 101, 32] ++ Lib.decDigits i.toNat := HHD.out.trans (if_pos rfl)
            have l1 : (str (Lib.decDigits i.toNat)).size ≤ 19 := dec_le _ (by omega)
            have l2 : (Lib.decDigits i.toNat).length ≤ 19 := dec_le _ (by omega)
            have cI := Lib.hid (mid_itoa HM1.out i h1 hi.2)
            have cW : Hid (∀ W, Mid w wr #[.int .i64 1, .int .i64 i, .int .i64 e, .int .i64 x] S W → Calls Tryd.prog 51 #[.pointer (some ⟨w.heap.size, 0, none⟩), .string (⟨#[114, 117, 108, 101, 32]⟩ ++ str (Lib.decDigits i.toNat))] W fun en W' => en = .returned (.tuple #[.int .i64 ([114, 117, 108, 101, 32] ++ Lib.decDigits i.toNat).length, .nilIface]) ∧ Mid w wr #[.int .i64 1, .int .i64 i, .int .i64 e, .int .i64 x] (S ++ ([114, 117, 108, 101, 32] ++ Lib.decDigits i.toNat)) W') := Lib.hid (fun W h => mid_str h hlt0 HG.out ([114, 117, 108, 101, 32] ++ Lib.decDigits i.toNat) _ (lit_app _ _ _ rfl) (by omega) (by simp; omega))
            clear h2 h3 h4 HHD HF2
            go_wp2_with fail
            refine cI.out.mono ?_
            rintro en w2 ⟨rfl, hM2⟩
            have HM2 := Lib.hid hM2
            clear hM2 cI
            go_wp2_with fail
            refine (cW.out _ HM2.out).mono ?_
            rintro en w3 ⟨rfl, hM3⟩
            have HM3 := Lib.hid hM3
            clear hM3 cW
            go_wp2_with fail
            go_meet
            exact HM3.out
          · obtain ⟨h0, h1, h2, h3, h4, h5⟩ := hr
            simp only at h0 h1 h2 h3 h4 h5
            obtain rfl : HD = [101, 114, 97, 32] ++ Lib.decDigits i.toNat ++ [32] ++ Lib.decDigits e.toNat := HHD.out.trans (if_neg (by omega))
            have l1 : (str (Lib.decDigits i.toNat)).size ≤ 19 := dec_le _ (by omega)
            have l2 : (str (Lib.decDigits e.toNat)).size ≤ 19 := dec_le _ (by omega)
            have l3 : (Lib.decDigits i.toNat).length ≤ 19 := dec_le _ (by omega)
            have l4 : (Lib.decDigits e.toNat).length ≤ 19 := dec_le _ (by omega)
            have bp : (p == 1) = false := by simp; omega
            have cW : Hid (∀ W, Mid w wr #[.int .i64 p, .int .i64 i, .int .i64 e, .int .i64 x] S W → Calls Tryd.prog 51 #[.pointer (some ⟨w.heap.size, 0, none⟩), .string (((⟨#[101, 114, 97, 32]⟩ ++ str (Lib.decDigits i.toNat)) ++ ⟨#[32]⟩) ++ str (Lib.decDigits e.toNat))] W fun en W' => en = .returned (.tuple #[.int .i64 ([101, 114, 97, 32] ++ Lib.decDigits i.toNat ++ [32] ++ Lib.decDigits e.toNat).length, .nilIface]) ∧ Mid w wr #[.int .i64 p, .int .i64 i, .int .i64 e, .int .i64 x] (S ++ ([101, 114, 97, 32] ++ Lib.decDigits i.toNat ++ [32] ++ Lib.decDigits e.toNat)) W') := Lib.hid (fun W h => mid_str h hlt0 HG.out _ _ (by rw [show (⟨#[101, 114, 97, 32]⟩ : ByteArray) = str [101, 114, 97, 32] from rfl, show (⟨#[32]⟩ : ByteArray) = str [32] from rfl, str_append, str_append, str_append]) (by omega) (by simp; omega))
            have hM1 := HM1.out
            have HS := Lib.hid (midx HM1.out)
            clear h0 h3 h4 h5 HHD HF2
            go_wp2_with fail
            have z0 : (⟨#[101, 114, 97, 32]⟩ : ByteArray).size = 4 := rfl
            have z1 : (⟨#[32]⟩ : ByteArray).size = 1 := rfl
            have z2 : (⟨#[101, 114, 97, 32]⟩ ++ str (Lib.decDigits i.toNat)).size ≤ 30 := by rw [ByteArray.size_append]; omega
            have z3 : (⟨#[101, 114, 97, 32]⟩ ++ str (Lib.decDigits i.toNat) ++ ⟨#[32]⟩).size ≤ 31 := by rw [ByteArray.size_append]; omega
            have q1 : ∀ W, (Op.stringOp .add ⟨#[101, 114, 97, 32]⟩ (str (Lib.decDigits i.toNat))).run Tryd.prog W = .ok (.string (⟨#[101, 114, 97, 32]⟩ ++ str (Lib.decDigits i.toNat))) W := fun W => run_string_add_sum (w := W) _ _ (by omega)
            have q2 : ∀ W, (Op.stringOp .add (⟨#[101, 114, 97, 32]⟩ ++ str (Lib.decDigits i.toNat)) ⟨#[32]⟩).run Tryd.prog W = .ok (.string (⟨#[101, 114, 97, 32]⟩ ++ str (Lib.decDigits i.toNat) ++ ⟨#[32]⟩)) W := fun W => run_string_add_sum (w := W) _ _ (by omega)
            have q3 : ∀ W, (Op.stringOp .add (⟨#[101, 114, 97, 32]⟩ ++ str (Lib.decDigits i.toNat) ++ ⟨#[32]⟩) (str (Lib.decDigits e.toNat))).run Tryd.prog W = .ok (.string (⟨#[101, 114, 97, 32]⟩ ++ str (Lib.decDigits i.toNat) ++ ⟨#[32]⟩ ++ str (Lib.decDigits e.toNat))) W := fun W => run_string_add_sum (w := W) _ _ (by omega)
            clear z0 z1 z2 z3
            go_region_held3 (fun W => W.cell? ⟨wr.heap.size, 0, none⟩ = some (.int .i64 p) ∧ W.cell? ⟨wr.heap.size, 1, none⟩ = some (.int .i64 i) ∧ W.cell? ⟨wr.heap.size, 2, none⟩ = some (.int .i64 e) ∧ W.cell? ⟨wr.heap.size, 3, none⟩ = some (.int .i64 x) ∧ MidX w wr #[.int .i64 p, .int .i64 i, .int .i64 e, .int .i64 x] W) (first | exact midx (by assumption) | exact midx (mid_drew (by assumption)) | exact HS.out)
              (first | (go_at_call 52; with_reducible refine (mid_itoa (by first | assumption | exact mid_drew (by assumption)) i h1 hi.2).mono ?_; rintro en w' ⟨rfl, hMq⟩; clear hM1) | (go_at_call 52; with_reducible refine (mid_itoa (by first | assumption | exact mid_drew (by assumption)) e h2 he.2).mono ?_; rintro en w' ⟨rfl, hMr⟩; clear hMq) | (go_at_call 51; refine (cW.out _ (by first | assumption | exact mid_drew (by assumption))).mono ?_; rintro en w' ⟨rfl, hMz⟩; clear hMr))
            all_goals
              go_wp2_with fail
              go_meet
              assumption
        case rest =>
          clear k0 k1 k2 k3 HM1
          have HM2 := Lib.hid hcut
          have HMW := Lib.hid hcut.2.2.1.words
          clear hcut
          have g0 : wc.cell? ⟨0, 0, none⟩ = some (.int .i64 1) := HMW.out 0 _ rfl
          have g1 : wc.cell? ⟨0, 1, none⟩ = some (.string ⟨#[115, 97, 118, 101]⟩) := HMW.out 1 _ rfl
          have g2 : wc.cell? ⟨0, 2, none⟩ = some (.int .i64 2) := HMW.out 2 _ rfl
          have g3 : wc.cell? ⟨0, 3, none⟩ = some (.string ⟨#[97, 116]⟩) := HMW.out 3 _ rfl
          have g4 : wc.cell? ⟨0, 4, none⟩ = some (.int .i64 4) := HMW.out 4 _ rfl
          have g5 : wc.cell? ⟨0, 5, none⟩ = some (.string ⟨#[111, 102, 102]⟩) := HMW.out 5 _ rfl
          have g6 : wc.cell? ⟨0, 6, none⟩ = some (.int .i64 8) := HMW.out 6 _ rfl
          have g7 : wc.cell? ⟨0, 7, none⟩ = some (.string ⟨#[102, 111, 114, 109, 97, 116]⟩) := HMW.out 7 _ rfl
          have g8 : wc.cell? ⟨0, 8, none⟩ = some (.int .i64 16) := HMW.out 8 _ rfl
          have g9 : wc.cell? ⟨0, 9, none⟩ = some (.string ⟨#[117, 110, 116, 105, 108]⟩) := HMW.out 9 _ rfl
          clear HMW
          go_wp2_with fail
          clear g0 g1 g2 g3 g4 g5 g6 g7 g8 g9
          obtain ⟨v, hvv⟩ : ∃ v : World, v = wr := ⟨_, rfl⟩
          subst hvv
          go_loopw [41] (fun j wq => ∃ m : Nat, m ≤ 5 ∧ j = .int .i64 m ∧ Mid w v #[.int .i64 p, .int .i64 i, .int .i64 e, .int .i64 x] (S ++ HD ++ wordsL x m) wq) (fun j _ => 5 - (intOf j).toNat)
          case atStart => exact ⟨0, by omega, rfl, by rw [show wordsL x 0 = [] from rfl, List.append_nil]; exact HM2.out⟩
          case round =>
            clear HM2
            obtain ⟨m, hm, rfl, hM⟩ := hrel
            have HM := Lib.hid hM
            obtain ⟨k0, k1, k2, k3⟩ := mid_cells hM
            have hlv := hM.2.1.lt
            clear hM
            rcases (by omega : m = 0 ∨ m = 1 ∨ m = 2 ∨ m = 3 ∨ m = 4 ∨ m = 5) with rfl | rfl | rfl | rfl | rfl | rfl
            · have hbt := bits_bit x hx2.1 hx2.2 1 (by decide)
              have HW : Hid (wordsL x 1 = wordsL x 0 ++ P32.wordL (P32.bit x 1) [115, 97, 118, 101]) := Lib.hid (wordsL_succ x 0 (1, [115, 97, 118, 101]) rfl)
              have hwl := wordsL_len x 0
              have hix := idx5_0
              generalize P32.bit x 1 = bb at hbt HW
              cases bb with
              | false =>
                go_wp2_with fail
                go_roundw
                case rel => exact ⟨1, by omega, by go_num, by rw [HW.out, show P32.wordL false [115, 97, 118, 101] = [] from rfl, List.append_nil]; exact HM.out.alloc _⟩
                case measure => simp [intOf]
              | true =>
                have cW : Hid (∀ W, Mid w v #[.int .i64 p, .int .i64 i, .int .i64 e, .int .i64 x] (S ++ HD ++ wordsL x 0) W → Calls Tryd.prog 51 #[.pointer (some ⟨w.heap.size, 0, none⟩), .string (⟨#[32]⟩ ++ ⟨#[115, 97, 118, 101]⟩)] W fun en W' => en = .returned (.tuple #[.int .i64 (32 :: [115, 97, 118, 101] : List UInt8).length, .nilIface]) ∧ Mid w v #[.int .i64 p, .int .i64 i, .int .i64 e, .int .i64 x] (S ++ HD ++ wordsL x 0 ++ 32 :: [115, 97, 118, 101]) W') := Lib.hid (fun W h => mid_str h hlt0 HG.out (32 :: [115, 97, 118, 101]) _ (by rfl) (by simp only [List.length_append]; omega) (by simp))
                have HMa := Lib.hid (HM.out.alloc (.cells #[.int .i64 1, .string ⟨#[115, 97, 118, 101]⟩] 104))
                go_wp2_with fail
                refine (cW.out _ HMa.out).mono ?_
                rintro en w4 ⟨rfl, hM4⟩
                have HM4 := Lib.hid hM4
                clear hM4 cW HMa HM k0 k1 k2 k3
                go_wp2_with fail
                go_roundw
                case rel => exact ⟨1, by omega, by go_num, by rw [HW.out, show P32.wordL true [115, 97, 118, 101] = 32 :: [115, 97, 118, 101] from rfl, ← List.append_assoc]; exact HM4.out⟩
                case measure => simp [intOf]
            · have hbt := bits_bit x hx2.1 hx2.2 2 (by decide)
              have HW : Hid (wordsL x 2 = wordsL x 1 ++ P32.wordL (P32.bit x 2) [97, 116]) := Lib.hid (wordsL_succ x 1 (2, [97, 116]) rfl)
              have hwl := wordsL_len x 1
              have hix := idx5_1
              generalize P32.bit x 2 = bb at hbt HW
              cases bb with
              | false =>
                go_wp2_with fail
                go_roundw
                case rel => exact ⟨2, by omega, by go_num, by rw [HW.out, show P32.wordL false [97, 116] = [] from rfl, List.append_nil]; exact HM.out.alloc _⟩
                case measure => simp [intOf]
              | true =>
                have cW : Hid (∀ W, Mid w v #[.int .i64 p, .int .i64 i, .int .i64 e, .int .i64 x] (S ++ HD ++ wordsL x 1) W → Calls Tryd.prog 51 #[.pointer (some ⟨w.heap.size, 0, none⟩), .string (⟨#[32]⟩ ++ ⟨#[97, 116]⟩)] W fun en W' => en = .returned (.tuple #[.int .i64 (32 :: [97, 116] : List UInt8).length, .nilIface]) ∧ Mid w v #[.int .i64 p, .int .i64 i, .int .i64 e, .int .i64 x] (S ++ HD ++ wordsL x 1 ++ 32 :: [97, 116]) W') := Lib.hid (fun W h => mid_str h hlt0 HG.out (32 :: [97, 116]) _ (by rfl) (by simp only [List.length_append]; omega) (by simp))
                have HMa := Lib.hid (HM.out.alloc (.cells #[.int .i64 2, .string ⟨#[97, 116]⟩] 104))
                go_wp2_with fail
                refine (cW.out _ HMa.out).mono ?_
                rintro en w4 ⟨rfl, hM4⟩
                have HM4 := Lib.hid hM4
                clear hM4 cW HMa HM k0 k1 k2 k3
                go_wp2_with fail
                go_roundw
                case rel => exact ⟨2, by omega, by go_num, by rw [HW.out, show P32.wordL true [97, 116] = 32 :: [97, 116] from rfl, ← List.append_assoc]; exact HM4.out⟩
                case measure => simp [intOf]
            · have hbt := bits_bit x hx2.1 hx2.2 4 (by decide)
              have HW : Hid (wordsL x 3 = wordsL x 2 ++ P32.wordL (P32.bit x 4) [111, 102, 102]) := Lib.hid (wordsL_succ x 2 (4, [111, 102, 102]) rfl)
              have hwl := wordsL_len x 2
              have hix := idx5_2
              generalize P32.bit x 4 = bb at hbt HW
              cases bb with
              | false =>
                go_wp2_with fail
                go_roundw
                case rel => exact ⟨3, by omega, by go_num, by rw [HW.out, show P32.wordL false [111, 102, 102] = [] from rfl, List.append_nil]; exact HM.out.alloc _⟩
                case measure => simp [intOf]
              | true =>
                have cW : Hid (∀ W, Mid w v #[.int .i64 p, .int .i64 i, .int .i64 e, .int .i64 x] (S ++ HD ++ wordsL x 2) W → Calls Tryd.prog 51 #[.pointer (some ⟨w.heap.size, 0, none⟩), .string (⟨#[32]⟩ ++ ⟨#[111, 102, 102]⟩)] W fun en W' => en = .returned (.tuple #[.int .i64 (32 :: [111, 102, 102] : List UInt8).length, .nilIface]) ∧ Mid w v #[.int .i64 p, .int .i64 i, .int .i64 e, .int .i64 x] (S ++ HD ++ wordsL x 2 ++ 32 :: [111, 102, 102]) W') := Lib.hid (fun W h => mid_str h hlt0 HG.out (32 :: [111, 102, 102]) _ (by rfl) (by simp only [List.length_append]; omega) (by simp))
                have HMa := Lib.hid (HM.out.alloc (.cells #[.int .i64 4, .string ⟨#[111, 102, 102]⟩] 104))
                go_wp2_with fail
                refine (cW.out _ HMa.out).mono ?_
                rintro en w4 ⟨rfl, hM4⟩
                have HM4 := Lib.hid hM4
                clear hM4 cW HMa HM k0 k1 k2 k3
                go_wp2_with fail
                go_roundw
                case rel => exact ⟨3, by omega, by go_num, by rw [HW.out, show P32.wordL true [111, 102, 102] = 32 :: [111, 102, 102] from rfl, ← List.append_assoc]; exact HM4.out⟩
                case measure => simp [intOf]
            · have hbt := bits_bit x hx2.1 hx2.2 8 (by decide)
              have HW : Hid (wordsL x 4 = wordsL x 3 ++ P32.wordL (P32.bit x 8) [102, 111, 114, 109, 97, 116]) := Lib.hid (wordsL_succ x 3 (8, [102, 111, 114, 109, 97, 116]) rfl)
              have hwl := wordsL_len x 3
              have hix := idx5_3
              generalize P32.bit x 8 = bb at hbt HW
              cases bb with
              | false =>
                go_wp2_with fail
                go_roundw
                case rel => exact ⟨4, by omega, by go_num, by rw [HW.out, show P32.wordL false [102, 111, 114, 109, 97, 116] = [] from rfl, List.append_nil]; exact HM.out.alloc _⟩
                case measure => simp [intOf]
              | true =>
                have cW : Hid (∀ W, Mid w v #[.int .i64 p, .int .i64 i, .int .i64 e, .int .i64 x] (S ++ HD ++ wordsL x 3) W → Calls Tryd.prog 51 #[.pointer (some ⟨w.heap.size, 0, none⟩), .string (⟨#[32]⟩ ++ ⟨#[102, 111, 114, 109, 97, 116]⟩)] W fun en W' => en = .returned (.tuple #[.int .i64 (32 :: [102, 111, 114, 109, 97, 116] : List UInt8).length, .nilIface]) ∧ Mid w v #[.int .i64 p, .int .i64 i, .int .i64 e, .int .i64 x] (S ++ HD ++ wordsL x 3 ++ 32 :: [102, 111, 114, 109, 97, 116]) W') := Lib.hid (fun W h => mid_str h hlt0 HG.out (32 :: [102, 111, 114, 109, 97, 116]) _ (by rfl) (by simp only [List.length_append]; omega) (by simp))
                have HMa := Lib.hid (HM.out.alloc (.cells #[.int .i64 8, .string ⟨#[102, 111, 114, 109, 97, 116]⟩] 104))
                go_wp2_with fail
                refine (cW.out _ HMa.out).mono ?_
                rintro en w4 ⟨rfl, hM4⟩
                have HM4 := Lib.hid hM4
                clear hM4 cW HMa HM k0 k1 k2 k3
                go_wp2_with fail
                go_roundw
                case rel => exact ⟨4, by omega, by go_num, by rw [HW.out, show P32.wordL true [102, 111, 114, 109, 97, 116] = 32 :: [102, 111, 114, 109, 97, 116] from rfl, ← List.append_assoc]; exact HM4.out⟩
                case measure => simp [intOf]
            · have hbt := bits_bit x hx2.1 hx2.2 16 (by decide)
              have HW : Hid (wordsL x 5 = wordsL x 4 ++ P32.wordL (P32.bit x 16) [117, 110, 116, 105, 108]) := Lib.hid (wordsL_succ x 4 (16, [117, 110, 116, 105, 108]) rfl)
              have hwl := wordsL_len x 4
              have hix := idx5_4
              generalize P32.bit x 16 = bb at hbt HW
              cases bb with
              | false =>
                go_wp2_with fail
                go_roundw
                case rel => exact ⟨5, by omega, by go_num, by rw [HW.out, show P32.wordL false [117, 110, 116, 105, 108] = [] from rfl, List.append_nil]; exact HM.out.alloc _⟩
                case measure => simp [intOf]
              | true =>
                have cW : Hid (∀ W, Mid w v #[.int .i64 p, .int .i64 i, .int .i64 e, .int .i64 x] (S ++ HD ++ wordsL x 4) W → Calls Tryd.prog 51 #[.pointer (some ⟨w.heap.size, 0, none⟩), .string (⟨#[32]⟩ ++ ⟨#[117, 110, 116, 105, 108]⟩)] W fun en W' => en = .returned (.tuple #[.int .i64 (32 :: [117, 110, 116, 105, 108] : List UInt8).length, .nilIface]) ∧ Mid w v #[.int .i64 p, .int .i64 i, .int .i64 e, .int .i64 x] (S ++ HD ++ wordsL x 4 ++ 32 :: [117, 110, 116, 105, 108]) W') := Lib.hid (fun W h => mid_str h hlt0 HG.out (32 :: [117, 110, 116, 105, 108]) _ (by rfl) (by simp only [List.length_append]; omega) (by simp))
                have HMa := Lib.hid (HM.out.alloc (.cells #[.int .i64 16, .string ⟨#[117, 110, 116, 105, 108]⟩] 104))
                go_wp2_with fail
                refine (cW.out _ HMa.out).mono ?_
                rintro en w4 ⟨rfl, hM4⟩
                have HM4 := Lib.hid hM4
                clear hM4 cW HMa HM k0 k1 k2 k3
                go_wp2_with fail
                go_roundw
                case rel => exact ⟨5, by omega, by go_num, by rw [HW.out, show P32.wordL true [117, 110, 116, 105, 108] = 32 :: [117, 110, 116, 105, 108] from rfl, ← List.append_assoc]; exact HM4.out⟩
                case measure => simp [intOf]
            · have hwl := wordsL_len x 5
              have cB := Lib.hid (mid_byte HM.out hlt0 HG.out (by simp only [List.length_append]; omega))
              clear k0 k1 k2 k3
              go_wp2_with fail
              refine cB.out.mono ?_
              rintro en w5 ⟨rfl, hM5⟩
              have HM5 : Hid (Mid w v #[.int .i64 p, .int .i64 i, .int .i64 e, .int .i64 x] ((L.take (k + 1)).flatMap P32.line) w5) := Lib.hid (by rw [HF2.out, ← List.append_assoc, ← List.append_assoc]; exact hM5)
              clear hM5 cB HM
              go_wp2_with fail
              go_roundw
              case rel => exact ⟨k + 1, by omega, by go_num, HM5.out.1, Lib.hid HT3, HM5.out.2.2.2⟩
              case measure => simp [intOf]; omega
    · obtain rfl : k = L.length := by omega
      have hki : ¬ (L.length : Int) < (L.length : Int) := by omega
      obtain rfl : R = (L.flatMap P32.line, 0) := HR.out.symm.trans (text_ok (all_upto HT.out))
      rw [List.take_length] at hB
      have cS := Lib.hid (Tryd.Builder_String_any_k w.heap.size w.heap.size (L.flatMap P32.line) wr hB hb.size)
      clear hB
      go_wp2_with fail
      refine cS.out.mono ?_
      rintro en w2 ⟨rfl, _, hc2, _⟩
      go_wp2_with fail
      go_ret2
      exact ⟨rfl, hb.trans hc2⟩
end Go.Proofs.YtggdfgdnpicepaaDoor
