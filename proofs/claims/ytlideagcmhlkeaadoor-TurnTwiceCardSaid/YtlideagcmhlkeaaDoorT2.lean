/- Texts of one proof, one behind the other: Num20d; Fmt21a; Fmt21b; Fmt21c; Nam21; Nam21b; Nam21c; Fmt21d; Fmt21e. -/
import Derived.Test.YtlideagcmhlkeaaDoorT1
import Derived.Deep.WholeRow
import Derived.Shelf.GgClosure.StringsIndexFunc
import Derived.BigQuiet
import Derived.Laws.CopyOwn

/- The walks of the reference's two and Parse (chapter 20). -/
namespace Go.Proofs.YtlideagcmhlkeaaDoor
open Go.RowKit
set_option linter.unusedVariables false

end Go.Proofs.YtlideagcmhlkeaaDoor

/- The walks of small functions of chapters 7 and 21: letters, abbreviations, what stands around %s and a slash. -/
namespace Go.Proofs.YtlideagcmhlkeaaDoor
open Go.RowKit Go.Lib
set_option linter.unusedVariables false

/-- what chapters 21 and 24 read: the error of a number that is none, and some number of bytes -/
structure Vars21 (w : World) : Prop where
  num : Vars w
  max : ∃ m, w.cell? ⟨1, 0, none⟩ = some (.int .i64 m)
  big : 1 < w.heap.size
theorem Vars21.below {w w' : World} (h : Vars21 w) (hb : Below w.heap.size w w') : Vars21 w' := by
  obtain ⟨m, hm⟩ := h.max
  exact ⟨h.num.below hb, ⟨m, (hb.cell (p := ⟨1, 0, none⟩) h.big).trans hm⟩, Nat.lt_of_lt_of_le h.big hb.size⟩

/-- strings.Cut -/
theorem cut21 (s : ByteArray) (sep : List UInt8) (w : World) (hs : s.size ≤ 1100000) (hv : Vars21 w) :
    Calls Tryd.prog 66 #[.string s, .string (str sep)] w fun e w' => e = .returned (.tuple #[.string (str (Lib.cut (P4.bl s) sep).1), .string (str (Lib.cut (P4.bl s) sep).2.1), .bool (Lib.cut (P4.bl s) sep).2.2]) ∧ Q w w' := by
  obtain ⟨m, hm⟩ := hv.max
  exact Tryd.strings_Cut s (str sep) m w (by omega) hm

/-- letters alone, so far -/
theorem all_take_succ {l : List UInt8} {k : Nat} {c : UInt8} (h : l[k]? = some c) (ha : (l.take k).all P21.isL = true) (hc : P21.isL c = true) : (l.take (k + 1)).all P21.isL = true := by
  rw [List.take_add_one, h, List.all_append, ha]
  simp [hc]
theorem all_no {l : List UInt8} {k : Nat} {c : UInt8} (h : l[k]? = some c) (hc : P21.isL c = false) : l.all P21.isL = false := by
  cases q : l.all P21.isL with
  | false => rfl
  | true => rw [List.all_eq_true] at q; rw [q c (List.mem_of_getElem? h)] at hc; cases hc
set_option maxRecDepth 100000 in
theorem is_any (s : ByteArray) (w : World) (hs : s.size ≤ 1100000) (hv : Vars w) :
    Calls Tryd.prog 67 #[.string s] w fun e w' => e = .returned (.bool (P21.num (P4.bl s))) ∧ Below w.heap.size w w' := by
  have c1 := nparse_any s w hs hv
  have hn : P21.num (P4.bl s) = decide ((P20.parse (P4.bl s)).2 = 0) := rfl
  rw [hn]
  generalize P20.parse (P4.bl s) = R at c1 ⊢
  obtain ⟨y, e⟩ := R
  go_enter Tryd.func67, Tryd.ntmps67
  go_wp2_with (go_at_call 98; refine c1.mono ?_; rintro e w' ⟨rfl, hb⟩)
  go_ret
  exact ⟨rfl, hb⟩
/-- the closure: no letter -/
theorem odd_pred (w : World) : PredAt Tryd.prog 89 #[] encR (fun r => !P21.isLr r) w := fun W r _ => by
  unfold FnGives
  show Calls _ _ _ _ fun e w' => e = .returned (.bool (!P21.isLr r)) ∧ ∃ q, w' = W.drewN q
  have hR : P21.isLr r = ((decide (65 ≤ r) && decide (r ≤ 90)) || (decide (97 ≤ r) && decide (r ≤ 122))) := rfl
  rw [hR]
  by_cases h1 : 65 ≤ r <;> by_cases h2 : r ≤ 90 <;> by_cases h3 : 97 ≤ r <;> by_cases h4 : r ≤ 122
  all_goals first | (exfalso; omega) | skip
  all_goals
    have i1 : (r : Int) < 65 ↔ r < 65 := by omega
    have i2 : (90 : Int) < (r : Int) ↔ 90 < r := by omega
    have i3 : (r : Int) < 97 ↔ r < 97 := by omega
    have i4 : (122 : Int) < (r : Int) ↔ 122 < r := by omega
    go_enter Tryd.func89, Tryd.ntmps89
    go_wp2_with fail
    go_ret
    exact ⟨by first | (simp [h1, h2, h3, h4]; done) | (simp [h1, h2, h3, h4]; omega), 0, rfl⟩
set_option maxRecDepth 100000 in
theorem idxf_any (s : ByteArray) (w : World) :
    Calls Tryd.prog 88 #[.string s, .func (.func 89) #[] #[]] w fun e w' => e = .returned (.int .i64 (Lib.idxFunc (fun r => !P21.isLr r) true s)) ∧ Below w.heap.size w w' := by
  have c1 := Any.strings_indexFunc Tryd.lays315 89 #[] (enters_of Tryd.func89 (by kernel_rfl) rfl) (fun r => !P21.isLr r) true s w (odd_pred w)
  have c2 : Calls Tryd.prog 106 #[.string s, .func (.func 89) #[] #[], .bool true] w fun e w' => e = .returned (.int .i64 (Lib.idxFunc (fun r => !P21.isLr r) true s)) ∧ Below w.heap.size w w' := c1.mono fun e w' h => ⟨h.1, by first | exact h.2 | exact h.2.1⟩
  clear c1
  generalize Lib.idxFunc (fun r => !P21.isLr r) true s = R at c2 ⊢
  go_enter Tryd.func88, Tryd.ntmps88
  go_wp2_with (go_at_call 106; refine c2.mono ?_; rintro e w' ⟨rfl, hb⟩)
  go_ret
  exact ⟨rfl, hb⟩
end Go.Proofs.YtlideagcmhlkeaaDoor

/- The walks of what stands around %s, and around a slash (chapter 21). -/
namespace Go.Proofs.YtlideagcmhlkeaaDoor
open Go.RowKit Go.Lib
set_option linter.unusedVariables false

theorem cut_len (l sep : List UInt8) : (Lib.cut l sep).1.length + (Lib.cut l sep).2.1.length ≤ l.length := by
  rcases P21.cut_cases l sep with ⟨q, _⟩ | ⟨i, hi, _, _, q⟩
  · rw [q]; simp
  · rw [q]; simp only [List.length_take, List.length_drop]; omega
theorem cat_run {P : Program} (a b : List UInt8) (h : a.length + b.length ≤ 2200000) : ∀ W, (Op.stringOp .add (str a) (str b)).run P W = .ok (.string (str (a ++ b))) W := fun W => by
  rw [run_string_add_sum (w := W) _ _ (by rw [str_size, str_size]; omega), str_append]
set_option maxRecDepth 100000 in
set_option maxHeartbeats 4000000 in
theorem around_any (s : ByteArray) (w : World) (hs : s.size ≤ 1100000) (hv : Vars21 w) :
    Calls Tryd.prog 50 #[.string s] w fun e w' => e = .returned (.tuple #[.string (str (P21.pct (P4.bl s)).1), .string (str (P21.pct (P4.bl s)).2.1), .bool (P21.letter (P4.bl s))]) ∧ Below w.heap.size w w' := by
  have c1 := cut21 s [37, 115] w hs hv
  have hl := cut_len (P4.bl s) [37, 115]
  rw [P4.bl_len] at hl
  have hLt : P21.letter (P4.bl s) = ((Lib.cut (P4.bl s) [37, 115]).2.2 && (((Lib.cut (P4.bl s) [37, 115]).1 ++ (Lib.cut (P4.bl s) [37, 115]).2.1).all P21.isL && decide (((Lib.cut (P4.bl s) [37, 115]).1 ++ (Lib.cut (P4.bl s) [37, 115]).2.1).length ≤ 5))) := rfl
  have hP : P21.pct (P4.bl s) = Lib.cut (P4.bl s) [37, 115] := rfl
  rw [hLt, hP]
  generalize Lib.cut (P4.bl s) [37, 115] = T at c1 hl ⊢
  obtain ⟨a, b, f⟩ := T
  simp only at c1 hl ⊢
  have hcat := cat_run (P := Tryd.prog) a b (by omega)
  have c2 := fun W => idxf_any (str (a ++ b)) W
  have hidx := P21.idx_lt (str (a ++ b))
  rw [str_data] at hidx
  have hsz : (str (a ++ b)).size = (a ++ b).length := str_size _
  generalize (a ++ b).all P21.isL = L at hidx ⊢
  generalize (a ++ b).length = n at hsz ⊢
  generalize Lib.idxFunc (fun r => !P21.isLr r) true (str (a ++ b)) = I at c2 hidx
  generalize str (a ++ b) = AB at hcat c2 hsz
  generalize str a = SA at c1 hcat ⊢
  generalize str b = SB at c1 hcat ⊢
  clear hl hP hLt
  have C1 := Lib.hid c1
  have C2 := Lib.hid c2
  clear c1 c2 hv
  have h5 : (AB.size : Int) ≤ 5 ↔ n ≤ 5 := by omega
  clear hs
  have hI : (I < 0 ∧ L = true) ∨ (¬ I < 0 ∧ L = false) := by
    by_cases q : I < 0
    · rw [decide_eq_true q] at hidx; exact .inl ⟨q, hidx.symm⟩
    · rw [decide_eq_false q] at hidx; exact .inr ⟨q, hidx.symm⟩
  clear hidx
  cases f with
  | false =>
    rcases hI with ⟨q, rfl⟩ | ⟨q, rfl⟩
    all_goals
      go_enter Tryd.func50, Tryd.ntmps50
      go_wp2_with (first | (go_at_call 66; refine C1.out.mono ?_; rintro e w1 ⟨rfl, n1, rfl⟩) | (go_at_call 88; refine (C2.out _).mono ?_; rintro e w2 ⟨rfl, hb2⟩))
      go_ret3
      exact ⟨rfl, (below_drewN (Below.refl w.heap.size w) n1).trans (show Below w.heap.size (w.drewN n1) w2 from hb2)⟩
  | true =>
    rcases hI with ⟨q, rfl⟩ | ⟨q, rfl⟩
    · by_cases hn : n ≤ 5
      all_goals
        go_enter Tryd.func50, Tryd.ntmps50
        go_wp2_with (first | (go_at_call 66; refine C1.out.mono ?_; rintro e w1 ⟨rfl, n1, rfl⟩) | (go_at_call 88; refine (C2.out _).mono ?_; rintro e w2 ⟨rfl, hb2⟩))
        go_ret3
        exact ⟨by first | (simp [hn]; done) | (simp [hn]; omega), (below_drewN (Below.refl w.heap.size w) n1).trans (show Below w.heap.size (w.drewN n1) w2 from hb2)⟩
    · go_enter Tryd.func50, Tryd.ntmps50
      go_wp2_with (first | (go_at_call 66; refine C1.out.mono ?_; rintro e w1 ⟨rfl, n1, rfl⟩) | (go_at_call 88; refine (C2.out _).mono ?_; rintro e w2 ⟨rfl, hb2⟩))
      go_ret3
      exact ⟨rfl, (below_drewN (Below.refl w.heap.size w) n1).trans (show Below w.heap.size (w.drewN n1) w2 from hb2)⟩

end Go.Proofs.YtlideagcmhlkeaaDoor

/- The walk of the reference's letter (chapter 21). -/
namespace Go.Proofs.YtlideagcmhlkeaaDoor
open Go.RowKit Go.Lib
set_option linter.unusedVariables false

end Go.Proofs.YtlideagcmhlkeaaDoor

/- The walk of name.Abbr: the table of the kinds of bytes, made at each call, and the closure that reads it. -/
namespace Go.Proofs.YtlideagcmhlkeaaDoor
open Go.RowKit Go.Lib
set_option linter.unusedVariables false

def kA : Nat → Array Value
  | 0 => Array.replicate 256 (.int .u8 0)
  | k + 1 => ((kA k).setIfInBounds (65 + k) (.int .u8 1)).setIfInBounds (97 + k) (.int .u8 1)
def kD : Nat → Array Value
  | 0 => kA 26
  | k + 1 => (kD k).setIfInBounds (48 + k) (.int .u8 2)
def kAll : Array Value := ((((kD 10).setIfInBounds 95 (.int .u8 4)).setIfInBounds 45 (.int .u8 8)).setIfInBounds 46 (.int .u8 16)).setIfInBounds 43 (.int .u8 16)
def kTab (n : Nat) : Int := if (65 ≤ n ∧ n ≤ 90) ∨ (97 ≤ n ∧ n ≤ 122) then 1 else if 48 ≤ n ∧ n ≤ 57 then 2 else if n = 95 then 4 else if n = 45 then 8 else if n = 46 ∨ n = 43 then 16 else 0
theorem kA_size : ∀ k, (kA k).size = 256
  | 0 => by simp [kA]
  | k + 1 => by rw [kA, Array.size_setIfInBounds, Array.size_setIfInBounds, kA_size k]
theorem kD_size : ∀ k, (kD k).size = 256
  | 0 => kA_size 26
  | k + 1 => by rw [kD, Array.size_setIfInBounds, kD_size k]
theorem kAll_size : kAll.size = 256 := by
  unfold kAll
  rw [Array.size_setIfInBounds, Array.size_setIfInBounds, Array.size_setIfInBounds, Array.size_setIfInBounds, kD_size]
theorem kAll_tab : kAll = (Array.range 256).map fun n => .int .u8 (kTab n) := by kernel_rfl
theorem kAll_at (n : Nat) (h : n < 256) : kAll[n]? = some (.int .u8 (kTab n)) := by
  rw [kAll_tab, Array.getElem?_map, Array.getElem?_range]
  simp [h]
theorem kTab_cases (n : Nat) : (P21.isLr n = true ∧ kTab n = 1) ∨ (P21.isLr n = false ∧ (kTab n = 0 ∨ kTab n = 2 ∨ kTab n = 4 ∨ kTab n = 8 ∨ kTab n = 16)) := by
  unfold P21.isLr kTab
  by_cases h : (65 ≤ n ∧ n ≤ 90) ∨ (97 ≤ n ∧ n ≤ 122)
  · left
    rw [if_pos h]
    simpa using h
  · right
    rw [if_neg h]
    refine ⟨by simp; omega, ?_⟩
    repeat' split
    all_goals simp
theorem kAll_one : kAll.all (·.oneCell') = true := by rw [kAll_tab]; kernel_rfl
theorem kA_succ (k : Nat) : kA (k + 1) = ((kA k).setIfInBounds (65 + k) (.int .u8 1)).setIfInBounds (97 + k) (.int .u8 1) := rfl
theorem kD_succ (k : Nat) : kD (k + 1) = (kD k).setIfInBounds (48 + k) (.int .u8 2) := rfl
theorem kD_zero : kD 0 = kA 26 := rfl
theorem kAll_eq : kAll = ((((kD 10).setIfInBounds 95 (.int .u8 4)).setIfInBounds 45 (.int .u8 8)).setIfInBounds 46 (.int .u8 16)).setIfInBounds 43 (.int .u8 16) := rfl
attribute [irreducible] kA kD kAll
end Go.Proofs.YtlideagcmhlkeaaDoor

/- The walk of name.Abbr: the table of the kinds of bytes, made at each call, and the closure that reads it. -/
namespace Go.Proofs.YtlideagcmhlkeaaDoor
open Go.RowKit Go.Lib
set_option linter.unusedVariables false

theorem kA_get (k n : Nat) (h : n < 256) : ∃ v, (kA k)[n]? = some v := ⟨_, Array.getElem?_eq_getElem (by rw [kA_size]; exact h)⟩
theorem kD_get (k n : Nat) (h : n < 256) : ∃ v, (kD k)[n]? = some v := ⟨_, Array.getElem?_eq_getElem (by rw [kD_size]; exact h)⟩
theorem zeroK : (Tryd.prog.info? 174).map (fun i => (i.zero, i.size)) = some (some (.agg (kA 0)), 256) := by kernel_rfl
theorem below_setB {B : Nat} {w W : World} {p : Addr} (h : Below B w W) (hp : B ≤ p.block) (u : Value) : Below B w (W.setCell p u) := h.trans ⟨rfl, rfl, rfl, by simp [World.setCell], fun j hj => Below.heap_setCell W p u j (by omega)⟩
theorem set_get {cs : Array Value} {n i : Nat} {u : Value} (hn : n < cs.size) : ∃ v, (cs.setIfInBounds i u)[n]? = some v := ⟨_, Array.getElem?_eq_getElem (by rw [Array.size_setIfInBounds]; exact hn)⟩
theorem store_blk {P : Program} {W : World} {B : Nat} {e : TypeId} {cs ds : Array Value} (h : Blk W B e cs) (hn : cs.size = ds.size) (h1 : ds.all (·.oneCell') = true) : (storeCells ⟨B, 0, none⟩ ds.toList 0).run P W = .ok () (W.setRow B ds) := by
  have := run_storeCells_from (P := P) B e ds.toList 0 cs W h (by rw [Array.length_toList]; omega) (fun v hv => by
    rw [← Array.all_toList, List.all_eq_true] at h1; exact h1 v hv)
  simpa using this
theorem blk_setRow {W : World} {B : Nat} {e : TypeId} {cs ds : Array Value} (h : Blk W B e cs) : Blk (W.setRow B ds) B e ds := by
  unfold Blk at h ⊢
  simp [World.setRow, Array.getElem?_modify, h]
set_option maxRecDepth 1000000 in
set_option maxHeartbeats 4000000 in
theorem kinds_any (w : World) :
    Calls Tryd.prog 107 #[] w fun e w' => e = .returned (.agg kAll) ∧ Below w.heap.size w w' := by
  obtain ⟨hz, hi⟩ := zero_of_info zeroK
  have hB0 := Blk.new w 174 (kA 0)
  have hO0 := Blk.newAt (w.alloc (.cells (kA 0) 174)) (w.heap.size + 1) (by simp) 174 (kA 0)
  have hB1 := hB0.alloc (.cells (kA 0) 174)
  have hb1 : Below w.heap.size w ((w.alloc (.cells (kA 0) 174)).alloc (.cells (kA 0) 174)) := ((Below.refl _ _).alloc (Nat.le_refl _) _).alloc (by simp) _
  clear hB0
  go_enter Tryd.func107, Tryd.ntmps107
  go_wp2_with fail
  generalize (w.alloc (.cells (kA 0) 174)).alloc (.cells (kA 0) 174) = W1 at hO0 hB1 hb1
  go_loopw [4] (fun s4 wr => ∃ k : Nat, k ≤ 26 ∧ s4 = .int .i64 (k : Int) ∧ Blk wr (w.heap.size + 1) 174 (kA k) ∧ Blk wr w.heap.size 174 (kA 0) ∧ Below w.heap.size w wr) (fun s4 _ => 26 - (intOf s4).toNat)
  case atStart => exact ⟨0, Nat.zero_le _, rfl, hO0, hB1, hb1⟩
  case round =>
    clear hO0 hB1 hb1
    obtain ⟨k, hk, rfl, hO, hB, hb⟩ := hrel
    by_cases hlt : k < 26
    · have hki : (k : Int) < 26 := by omega
      obtain ⟨v1, hv1⟩ := kA_get k (65 + k) (by omega)
      have c1 : wr.cell? ⟨w.heap.size + 1, 65 + k, none⟩ = some v1 := (hO.cell _).trans hv1
      have f1 := hO.frozen (65 + k)
      have hO2 := hO.set_ (65 + k) (.int .u8 1)
      obtain ⟨v2, hv2⟩ := set_get (cs := kA k) (n := 97 + k) (i := 65 + k) (u := .int .u8 1) (by rw [kA_size]; omega)
      have c2 : (wr.setCell ⟨w.heap.size + 1, 65 + k, none⟩ (.int .u8 1)).cell? ⟨w.heap.size + 1, 97 + k, none⟩ = some v2 := (hO2.cell _).trans hv2
      have f2 := hO2.frozen (97 + k)
      have hO3 := hO2.set_ (97 + k) (.int .u8 1)
      rw [← kA_succ] at hO3
      have hB3 := (hB.far (p := ⟨w.heap.size + 1, 65 + k, none⟩) (by simp) (.int .u8 1)).far (p := ⟨w.heap.size + 1, 97 + k, none⟩) (by simp) (.int .u8 1)
      have hb3 := below_setB (below_setB hb (p := ⟨w.heap.size + 1, 65 + k, none⟩) (Nat.le_succ _) (.int .u8 1)) (p := ⟨w.heap.size + 1, 97 + k, none⟩) (Nat.le_succ _) (.int .u8 1)
      have HO := Lib.hid hO3
      have HB := Lib.hid hB3
      have HBe := Lib.hid hb3
      clear hO hB hb hv1 hv2 hO2 hO3 hB3 hb3
      go_wp2_with fail
      go_roundw
      case rel => exact ⟨k + 1, by omega, by go_num, HO.out, HB.out, HBe.out⟩
      case measure => simp [intOf]; omega
    · obtain rfl : k = 26 := by omega
      rw [← kD_zero] at hO
      go_wp2_with fail
      go_loopw [14] (fun s4 wr => ∃ k : Nat, k ≤ 10 ∧ s4 = .int .i64 (k : Int) ∧ Blk wr (w.heap.size + 1) 174 (kD k) ∧ Blk wr w.heap.size 174 (kA 0) ∧ Below w.heap.size w wr) (fun s4 _ => 10 - (intOf s4).toNat)
      case atStart => exact ⟨0, Nat.zero_le _, rfl, hO, hB, hb⟩
      case round =>
        clear hO hB hb
        obtain ⟨k, hk, rfl, hO, hB, hb⟩ := hrel
        by_cases hlt : k < 10
        · have hki : (k : Int) < 10 := by omega
          obtain ⟨v1, hv1⟩ := kD_get k (48 + k) (by omega)
          have c1 : wr.cell? ⟨w.heap.size + 1, 48 + k, none⟩ = some v1 := (hO.cell _).trans hv1
          have f1 := hO.frozen (48 + k)
          have hO3 := hO.set_ (48 + k) (.int .u8 2)
          rw [← kD_succ] at hO3
          have hB3 := hB.far (p := ⟨w.heap.size + 1, 48 + k, none⟩) (by simp) (.int .u8 2)
          have hb3 := below_setB hb (p := ⟨w.heap.size + 1, 48 + k, none⟩) (Nat.le_succ _) (.int .u8 2)
          have HO := Lib.hid hO3
          have HB := Lib.hid hB3
          have HBe := Lib.hid hb3
          clear hO hB hb hv1 hO3 hB3 hb3
          go_wp2_with fail
          go_roundw
          case rel => exact ⟨k + 1, by omega, by go_num, HO.out, HB.out, HBe.out⟩
          case measure => simp [intOf]; omega
        · obtain rfl : k = 10 := by omega
          have hz10 := kD_size 10
          obtain ⟨v1, hv1⟩ := kD_get 10 95 (by omega)
          have c1 : wr.cell? ⟨w.heap.size + 1, 95, none⟩ = some v1 := (hO.cell _).trans hv1
          have f1 := hO.frozen 95
          have hO1 := hO.set_ 95 (.int .u8 4)
          obtain ⟨v2, hv2⟩ := set_get (cs := kD 10) (n := 45) (i := 95) (u := .int .u8 4) (by omega)
          have c2 := (hO1.cell 45).trans hv2
          have f2 := hO1.frozen 45
          have hO2 := hO1.set_ 45 (.int .u8 8)
          obtain ⟨v3, hv3⟩ := set_get (cs := (kD 10).setIfInBounds 95 (.int .u8 4)) (n := 46) (i := 45) (u := .int .u8 8) (by rw [Array.size_setIfInBounds]; omega)
          have c3 := (hO2.cell 46).trans hv3
          have f3 := hO2.frozen 46
          have hO3 := hO2.set_ 46 (.int .u8 16)
          obtain ⟨v4, hv4⟩ := set_get (cs := ((kD 10).setIfInBounds 95 (.int .u8 4)).setIfInBounds 45 (.int .u8 8)) (n := 43) (i := 46) (u := .int .u8 16) (by rw [Array.size_setIfInBounds, Array.size_setIfInBounds]; omega)
          have c4 := (hO3.cell 43).trans hv4
          have f4 := hO3.frozen 43
          have hO4 := hO3.set_ 43 (.int .u8 16)
          rw [← kAll_eq] at hO4
          have hB4 := (((hB.far (p := ⟨w.heap.size + 1, 95, none⟩) (by simp) (.int .u8 4)).far (p := ⟨w.heap.size + 1, 45, none⟩) (by simp) (.int .u8 8)).far (p := ⟨w.heap.size + 1, 46, none⟩) (by simp) (.int .u8 16)).far (p := ⟨w.heap.size + 1, 43, none⟩) (by simp) (.int .u8 16)
          have hb4 := below_setB (below_setB (below_setB (below_setB hb (p := ⟨w.heap.size + 1, 95, none⟩) (Nat.le_succ _) (.int .u8 4)) (p := ⟨w.heap.size + 1, 45, none⟩) (Nat.le_succ _) (.int .u8 8)) (p := ⟨w.heap.size + 1, 46, none⟩) (Nat.le_succ _) (.int .u8 16)) (p := ⟨w.heap.size + 1, 43, none⟩) (Nat.le_succ _) (.int .u8 16)
          have HO := Lib.hid hO4
          have HB := Lib.hid hB4
          have HBe := Lib.hid hb4
          clear hO hO1 hO2 hO3 hO4 hB hB4 hb hb4 hv1 hv2 hv3 hv4 hz10
          go_wp2_with fail
          generalize (((wr.setCell ⟨w.heap.size + 1, 95, none⟩ (.int .u8 4)).setCell ⟨w.heap.size + 1, 45, none⟩ (.int .u8 8)).setCell ⟨w.heap.size + 1, 46, none⟩ (.int .u8 16)).setCell ⟨w.heap.size + 1, 43, none⟩ (.int .u8 16) = W5 at HO HB HBe ⊢
          have hks := kAll_size
          have hsc : (storeCells ⟨w.heap.size, 0, none⟩ kAll.toList 0).run Tryd.prog W5 = .ok () (W5.setRow w.heap.size kAll) := store_blk HB.out (by rw [kA_size, kAll_size]) kAll_one
          refine wp_load_row _ _ rfl (w.heap.size + 1) rfl _ kAll (0, 0) _ HO.out Tryd.underlying174 rfl (by rw [kAll_size]; exact hi) ?_
          go_wp2_with fail
          (try simp only [Exit.inBlock, Exit.then])
          refine bodyPost_ret (v := .agg kAll) ?_ rfl ⟨rfl, below_setRow HBe.out (Nat.le_refl _) _⟩
          exact results_cell_row rfl _ _ w.heap.size _ kAll (0, 0) _ rfl (blk_setRow HB.out) Tryd.underlying174 rfl (by rw [kAll_size]; exact hi)
end Go.Proofs.YtlideagcmhlkeaaDoor

/- The walk of name.Abbr: the closure over the table. -/
namespace Go.Proofs.YtlideagcmhlkeaaDoor
open Go.RowKit Go.Lib
set_option linter.unusedVariables false

/-- what the closure has captured -/
structure OfBox (w : World) (b0 b1 bk b2 : Nat) : Prop where
  least : w.cell? ⟨b0, 0, none⟩ = some (.int .i64 3)
  most : w.cell? ⟨b1, 0, none⟩ = some (.int .i64 6)
  kinds : Blk w bk 174 kAll
  some_ : w.cell? ⟨b2, 0, none⟩ = some (.int .u8 1)
theorem kAll_and (c : UInt8) {w : World} {b : Nat} (h : Blk w b 174 kAll) : ∃ n : Int, w.cell? ⟨b, c.toNat, none⟩ = some (.int .u8 n) ∧ ((P21.isL c = true ∧ n = 1) ∨ (P21.isL c = false ∧ (n = 0 ∨ n = 2 ∨ n = 4 ∨ n = 8 ∨ n = 16))) :=
  ⟨kTab c.toNat, (h.cell _).trans (kAll_at _ (UInt8.toNat_lt c)), kTab_cases c.toNat⟩
set_option maxRecDepth 100000 in
set_option maxHeartbeats 8000000 in
theorem of1_any (s : ByteArray) (b0 b1 bk b2 : Nat) (w : World) (hs : s.size ≤ 1100000) (hO : OfBox w b0 b1 bk b2) :
    Calls Tryd.prog 108 #[.string s, .pointer (some ⟨b0, 0, none⟩), .pointer (some ⟨b1, 0, none⟩), .pointer (some ⟨bk, 0, none⟩), .pointer (some ⟨b2, 0, none⟩)] w fun e w' => e = .returned (.bool (P21.abbr (P4.bl s))) ∧ Q w w' := by
  obtain ⟨R, hR⟩ : ∃ R, P21.abbr (P4.bl s) = R := ⟨_, rfl⟩
  rw [hR]
  have HR := Lib.hid hR
  clear hR
  obtain ⟨c0, c1, hK, c2⟩ := hO
  have hsi : (s.size : Int) ≤ 1100000 := by omega
  have hln := P4.bl_len s
  by_cases h3 : s.size < 3
  · have h3i : (s.size : Int) < 3 := by omega
    have HN : Hid (R = false) := by
      have r := HR.out
      unfold P21.abbr at r
      rw [decide_eq_false (by omega)] at r
      exact Lib.hid r.symm
    go_enter Tryd.func108, Tryd.ntmps108
    go_wp2_with fail
    go_ret
    exact ⟨by rw [HN.out]; rfl, Q.refl _⟩
  · by_cases h6 : 6 < s.size
    · have h3i : ¬ (s.size : Int) < 3 := by omega
      have h6i : (6 : Int) < (s.size : Int) := by omega
      have HN : Hid (R = false) := by
        have r := HR.out
        unfold P21.abbr at r
        rw [decide_eq_false (p := (P4.bl s).length ≤ 6) (by omega), Bool.and_false] at r
        exact Lib.hid r.symm
      go_enter Tryd.func108, Tryd.ntmps108
      go_wp2_with fail
      go_ret
      exact ⟨by rw [HN.out]; rfl, Q.refl _⟩
    · have h3i : ¬ (s.size : Int) < 3 := by omega
      have h6i : ¬ (6 : Int) < (s.size : Int) := by omega
      have HN : Hid (R = (P4.bl s).all P21.isL) := by
        have r := HR.out
        unfold P21.abbr at r
        rw [decide_eq_true (p := (P4.bl s).length ≤ 6) (by omega), decide_eq_true (p := 3 ≤ (P4.bl s).length) (by omega)] at r
        exact Lib.hid r.symm
      clear HR
      go_enter Tryd.func108, Tryd.ntmps108
      go_wp2_with fail
      go_loopw [20] (fun i wr => ∃ k : Nat, k ≤ s.size ∧ i = .int .i64 (k : Int) ∧ Hid (((P4.bl s).take k).all P21.isL = true) ∧ ∃ n, wr = w.drewN n) (fun i _ => s.size - (intOf i).toNat)
      case atStart => exact ⟨0, Nat.zero_le _, rfl, Lib.hid rfl, 0, rfl⟩
      case round =>
        obtain ⟨k, hk, rfl, HA, n, rfl⟩ := hrel
        by_cases hlt : k < s.size
        · have hki : (k : Int) < (s.size : Int) := by omega
          have hb := P4.bl_get s k hlt
          obtain ⟨c, hc⟩ : ∃ c, s[k]'hlt = c := ⟨_, rfl⟩
          rw [hc] at hb
          have HB := Lib.hid hb
          clear hb
          obtain ⟨v, cv, hvv⟩ := kAll_and c hK
          have hcb := UInt8.toNat_lt c
          have hcb2 : (c.toNat : Int) < 256 := by omega
          clear hcb
          rcases hvv with ⟨hL, rfl⟩ | ⟨hL, hvv⟩
          · have HS := Lib.hid (all_take_succ HB.out HA.out hL)
            clear hL hK
            go_wp2_with fail
            go_quiet (fail)
            go_wp2_with fail
            go_roundw
            case rel => exact ⟨k + 1, by omega, by go_num, HS, _, rfl⟩
            case measure => simp [intOf]; omega
          · have HF : Hid (R = false) := by
              have q := all_no HB.out hL
              have r := HN.out
              rw [q] at r
              exact Lib.hid r
            clear hL hK
            rcases hvv with rfl | rfl | rfl | rfl | rfl
            all_goals
              go_wp2_with fail
              go_quiet (fail)
              go_wp2_with fail
              go_ret
              exact ⟨by rw [HF.out]; rfl, by first | exact ⟨_, rfl⟩ | exact ⟨n + nq, by rw [World.drewN_drewN]⟩⟩
        · obtain rfl : k = s.size := by omega
          have HF : Hid (R = true) := by
            have q := HA.out
            rw [List.take_of_length_le (by rw [P4.bl_len]; exact Nat.le_refl _)] at q
            have r := HN.out
            rw [q] at r
            exact Lib.hid r
          clear hK
          go_wp2_with fail
          go_ret
          exact ⟨by rw [HF.out]; rfl, ⟨n, rfl⟩⟩
/-- the box that 'of' hands back -/
def ofFn (b0 b1 bk b2 : Nat) : Value := .func (.func 108) #[] #[.pointer (some ⟨b0, 0, none⟩), .pointer (some ⟨b1, 0, none⟩), .pointer (some ⟨bk, 0, none⟩), .pointer (some ⟨b2, 0, none⟩)]
set_option maxRecDepth 1000000 in
set_option maxHeartbeats 4000000 in
theorem of_any (w : World) :
    Calls Tryd.prog 90 #[.int .i64 3, .int .i64 6, .int .u8 1] w fun e w' => ∃ b0 b1 bk b2, e = .returned (ofFn b0 b1 bk b2) ∧ OfBox w' b0 b1 bk b2 ∧ Below w.heap.size w w' := by
  have hmf : ∀ (fn : Fn) (first cap : Array Value) (w : World), (Instr.makeFunc fn first cap).run Tryd.prog w = .ok (.func fn first cap) w := fun _ _ _ _ => rfl
  obtain ⟨hz, hi⟩ := zero_of_info zeroK
  have hb0 := Blk.new w 3 #[.int .i64 3]
  have hw0 := (Below.refl w.heap.size w).alloc (Nat.le_refl _) (.cells #[.int .i64 3] 3)
  have hb1 := Blk.newAt (w.alloc (.cells #[.int .i64 3] 3)) (w.heap.size + 1) (by simp) 3 #[.int .i64 6]
  have hw1 := hw0.alloc (by simp) (.cells #[.int .i64 6] 3)
  have hb2 := Blk.newAt ((w.alloc (.cells #[.int .i64 3] 3)).alloc (.cells #[.int .i64 6] 3)) (w.heap.size + 1 + 1) (by simp) 5 #[.int .u8 1]
  have hw2 := hw1.alloc (by simp; omega) (.cells #[.int .u8 1] 5)
  have hb0' := (hb0.alloc (.cells #[.int .i64 6] 3)).alloc (.cells #[.int .u8 1] 5)
  have hb1' := hb1.alloc (.cells #[.int .u8 1] 5)
  clear hb0 hb1 hw0 hw1
  go_enter Tryd.func90, Tryd.ntmps90
  go_wp2_with fail
  generalize ((w.alloc (.cells #[.int .i64 3] 3)).alloc (.cells #[.int .i64 6] 3)).alloc (.cells #[.int .u8 1] 5) = W2 at hb2 hw2 hb0' hb1' ⊢
  refine (kinds_any _).mono ?_
  rintro e w1 ⟨rfl, hc⟩
  have H0 := (hb0'.below hc hb0'.lt).alloc (.cells (kA 0) 174)
  have H1 := (hb1'.below hc hb1'.lt).alloc (.cells (kA 0) 174)
  have H2 := (hb2.below hc hb2.lt).alloc (.cells (kA 0) 174)
  have HW := (hw2.trans (hc.mono hw2.size)).alloc (Nat.le_trans hw2.size hc.size) (.cells (kA 0) 174)
  have HK := Blk.new w1 174 (kA 0)
  have hlt : w.heap.size ≤ w1.heap.size := Nat.le_trans hw2.size hc.size
  have hlt2 : w.heap.size + 1 + 1 < w1.heap.size := Nat.lt_of_lt_of_le hb2.lt hc.size
  clear hb2 hw2 hb0' hb1' hc
  have hks := kAll_size
  obtain ⟨W3, hW3⟩ : ∃ W3, w1.alloc (.cells (kA 0) 174) = W3 := ⟨_, rfl⟩
  rw [hW3] at H0 H1 H2 HW HK
  have hsc : (storeCells ⟨w1.heap.size, 0, none⟩ kAll.toList 0).run Tryd.prog W3 = .ok () (W3.setRow w1.heap.size kAll) := store_blk HK (by rw [kA_size, kAll_size]) kAll_one
  go_wp2_with fail
  go_ret
  refine ⟨w.heap.size, w.heap.size + 1, w1.heap.size, w.heap.size + 1 + 1, rfl, ⟨?_, ?_, blk_setRow HK, ?_⟩, below_setRow HW hlt _⟩
  · rw [cell_setRow_other _ _ _ _ (by simp; omega)]; exact (H0.cell 0).trans rfl
  · rw [cell_setRow_other _ _ _ _ (by simp; omega)]; exact (H1.cell 0).trans rfl
  · rw [cell_setRow_other _ _ _ _ (by simp; omega)]; exact (H2.cell 0).trans rfl
set_option maxRecDepth 1000000 in
set_option maxHeartbeats 4000000 in
theorem abbr_any (s : ByteArray) (w : World) (hs : s.size ≤ 1100000) :
    Calls Tryd.prog 52 #[.string s] w fun e w' => e = .returned (.bool (P21.abbr (P4.bl s))) ∧ Below w.heap.size w w' := by
  have c2 := fun b0 b1 bk b2 W h => of1_any s b0 b1 bk b2 W hs h
  generalize P21.abbr (P4.bl s) = R at c2 ⊢
  have C2 := Lib.hid c2
  clear c2
  go_enter Tryd.func52, Tryd.ntmps52
  go_wp2_with fail
  refine (of_any _).mono ?_
  rintro e w1 ⟨b0, b1, bk, b2, rfl, hO, hb⟩
  unfold ofFn
  go_wp2_with fail
  refine (C2.out _ _ _ _ _ hO).mono ?_
  rintro e w2 ⟨rfl, n, rfl⟩
  go_wp2_with fail
  go_ret
  exact ⟨rfl, below_drewN hb n⟩
end Go.Proofs.YtlideagcmhlkeaaDoor

/- The walks of the kinds, the parts and the abbreviations of FORMATs (chapter 21). -/
namespace Go.Proofs.YtlideagcmhlkeaaDoor
open Go.RowKit Go.Lib
set_option linter.unusedVariables false

theorem str_toList (l : List UInt8) : (str l).toList = l := by rw [ByteArray.toList_eq]; rfl
theorem ne_size {s : ByteArray} {l : List UInt8} (h : P4.bl s ≠ l) : ¬ s = str l := fun q => h (by rw [q]; exact str_data l)
theorem lss_cut (s : ByteArray) : (str (P21.slash (P4.bl s)).1).size + (str (P21.slash (P4.bl s)).2.1).size ≤ s.size := by
  have := cut_len (P4.bl s) [47]
  rw [P4.bl_len] at this
  rw [str_size, str_size]; exact this
/-- one name for the tests of a kind -/
theorem kind_tests (l : List UInt8) : P21.kind l = if P21.abbr l = true then 1 else if ((P21.slash l).2.2 && P21.abbr (P21.slash l).1 && P21.abbr (P21.slash l).2.1) = true then 2 else if P21.letter l = true then 3 else if l = [37, 122] then 4 else if (P21.num l || ((P21.slash l).2.2 && P21.num (P21.slash l).1 && P21.num (P21.slash l).2.1)) = true then 5 else 0 := rfl
set_option maxRecDepth 100000 in
set_option maxHeartbeats 8000000 in
theorem kind_any (s : ByteArray) (w : World) (hs : s.size ≤ 1100000) (hv : Vars21 w) :
    Calls Tryd.prog 36 #[.string s] w fun e w' => e = .returned (.int .i64 (P21.kind (P4.bl s))) ∧ Below w.heap.size w w' := by
  have cC : Hid (∀ W, Vars21 W → Calls Tryd.prog 66 #[.string s, .string (str [47])] W fun e w' => e = .returned (.tuple #[.string (str (P21.slash (P4.bl s)).1), .string (str (P21.slash (P4.bl s)).2.1), .bool (P21.slash (P4.bl s)).2.2]) ∧ Q W w') := fun W h => cut21 s [47] W hs h
  have cL : Hid (∀ W, Vars21 W → Calls Tryd.prog 50 #[.string s] W fun e w' => e = .returned (.tuple #[.string (str (P21.pct (P4.bl s)).1), .string (str (P21.pct (P4.bl s)).2.1), .bool (P21.letter (P4.bl s))]) ∧ Below W.heap.size W w') := fun W h => around_any s W hs h
  have cA : Hid (∀ W, Calls Tryd.prog 52 #[.string s] W fun e w' => e = .returned (.bool (P21.abbr (P4.bl s))) ∧ Below W.heap.size W w') := fun W => abbr_any s W hs
  have cI : Hid (∀ W, Vars21 W → Calls Tryd.prog 67 #[.string s] W fun e w' => e = .returned (.bool (P21.num (P4.bl s))) ∧ Below W.heap.size W w') := fun W h => is_any s W hs h.num
  have hsl := lss_cut s
  have cA1 : Hid (∀ W, Calls Tryd.prog 52 #[.string (str (P21.slash (P4.bl s)).1)] W fun e w' => e = .returned (.bool (P21.abbr (P21.slash (P4.bl s)).1)) ∧ Below W.heap.size W w') := fun W => abbr_any (str (P21.slash (P4.bl s)).1) W (by omega)
  have cA2 : Hid (∀ W, Calls Tryd.prog 52 #[.string (str (P21.slash (P4.bl s)).2.1)] W fun e w' => e = .returned (.bool (P21.abbr (P21.slash (P4.bl s)).2.1)) ∧ Below W.heap.size W w') := fun W => abbr_any (str (P21.slash (P4.bl s)).2.1) W (by omega)
  have cI1 : Hid (∀ W, Vars21 W → Calls Tryd.prog 67 #[.string (str (P21.slash (P4.bl s)).1)] W fun e w' => e = .returned (.bool (P21.num (P21.slash (P4.bl s)).1)) ∧ Below W.heap.size W w') := fun W h => is_any (str (P21.slash (P4.bl s)).1) W (by omega) h.num
  have cI2 : Hid (∀ W, Vars21 W → Calls Tryd.prog 67 #[.string (str (P21.slash (P4.bl s)).2.1)] W fun e w' => e = .returned (.bool (P21.num (P21.slash (P4.bl s)).2.1)) ∧ Below W.heap.size W w') := fun W h => is_any (str (P21.slash (P4.bl s)).2.1) W (by omega) h.num
  obtain ⟨R, hR⟩ : ∃ R, P21.kind (P4.bl s) = R := ⟨_, rfl⟩
  rw [hR]
  rw [kind_tests] at hR
  have hz : (P4.bl s = [37, 122] ∧ (s.toList == [37, 122]) = true) ∨ (¬ P4.bl s = [37, 122] ∧ (s.toList == [37, 122]) = false) := by
    by_cases q : P4.bl s = [37, 122]
    · refine .inl ⟨q, ?_⟩
      have : s = str [37, 122] := by rw [← q]; exact (str_bl s).symm
      rw [this, str_toList]; rfl
    · exact .inr ⟨q, by have x := eq_b s (str [37, 122]) (ne_size q); rwa [str_toList] at x⟩
  generalize P21.abbr (P4.bl s) = A at hR cA
  generalize P21.letter (P4.bl s) = L at hR cL
  generalize P21.num (P4.bl s) = I at hR cI
  generalize P21.abbr (P21.slash (P4.bl s)).1 = A1 at hR cA1
  generalize P21.abbr (P21.slash (P4.bl s)).2.1 = A2 at hR cA2
  generalize P21.num (P21.slash (P4.bl s)).1 = I1 at hR cI1
  generalize P21.num (P21.slash (P4.bl s)).2.1 = I2 at hR cI2
  generalize (P21.slash (P4.bl s)).2.2 = T at hR cC
  generalize str (P21.slash (P4.bl s)).1 = SA at cC cA1 cI1
  generalize str (P21.slash (P4.bl s)).2.1 = SB at cC cA2 cI2
  generalize str (P21.pct (P4.bl s)).1 = PA at cL
  generalize str (P21.pct (P4.bl s)).2.1 = PB at cL
  have HR := Lib.hid hR
  clear hR hsl hs
  cases A with
  | true =>
    go_enter Tryd.func36, Tryd.ntmps36
    go_wp2_with fail
    refine (cC.out _ hv).mono ?_
    rintro e w1 ⟨rfl, hc10⟩
    have hc1 := hc10.below w.heap.size
    have hb1 := hc1
    have hv2 := hv.below hb1
    go_wp2_with fail
    refine (cL.out _ hv2).mono ?_
    rintro e w2 ⟨rfl, hc2⟩
    have hb2 := hb1.trans (hc2.mono hb1.size)
    go_wp2_with fail
    refine (cA.out _).mono ?_
    rintro e w3 ⟨rfl, hc3⟩
    have hb3 := hb2.trans (hc3.mono hb2.size)
    go_wp2_with fail
    go_ret
    exact ⟨by rw [show R = 1 from HR.out.symm.trans (by simp)]; rfl, hb3⟩
  | false =>
    cases T with
    | true =>
      cases A1 with
      | true =>
        cases A2 with
        | true =>
          go_enter Tryd.func36, Tryd.ntmps36
          go_wp2_with fail
          refine (cC.out _ hv).mono ?_
          rintro e w1 ⟨rfl, hc10⟩
          have hc1 := hc10.below w.heap.size
          have hb1 := hc1
          have hv2 := hv.below hb1
          go_wp2_with fail
          refine (cL.out _ hv2).mono ?_
          rintro e w2 ⟨rfl, hc2⟩
          have hb2 := hb1.trans (hc2.mono hb1.size)
          go_wp2_with fail
          refine (cA.out _).mono ?_
          rintro e w3 ⟨rfl, hc3⟩
          have hb3 := hb2.trans (hc3.mono hb2.size)
          go_wp2_with fail
          refine (cA1.out _).mono ?_
          rintro e w4 ⟨rfl, hc4⟩
          have hb4 := hb3.trans (hc4.mono hb3.size)
          go_wp2_with fail
          refine (cA2.out _).mono ?_
          rintro e w5 ⟨rfl, hc5⟩
          have hb5 := hb4.trans (hc5.mono hb4.size)
          go_wp2_with fail
          go_ret
          exact ⟨by rw [show R = 2 from HR.out.symm.trans (by simp)]; rfl, hb5⟩
        | false =>
          cases L with
          | true =>
            go_enter Tryd.func36, Tryd.ntmps36
            go_wp2_with fail
            refine (cC.out _ hv).mono ?_
            rintro e w1 ⟨rfl, hc10⟩
            have hc1 := hc10.below w.heap.size
            have hb1 := hc1
            have hv2 := hv.below hb1
            go_wp2_with fail
            refine (cL.out _ hv2).mono ?_
            rintro e w2 ⟨rfl, hc2⟩
            have hb2 := hb1.trans (hc2.mono hb1.size)
            go_wp2_with fail
            refine (cA.out _).mono ?_
            rintro e w3 ⟨rfl, hc3⟩
            have hb3 := hb2.trans (hc3.mono hb2.size)
            go_wp2_with fail
            refine (cA1.out _).mono ?_
            rintro e w4 ⟨rfl, hc4⟩
            have hb4 := hb3.trans (hc4.mono hb3.size)
            go_wp2_with fail
            refine (cA2.out _).mono ?_
            rintro e w5 ⟨rfl, hc5⟩
            have hb5 := hb4.trans (hc5.mono hb4.size)
            go_wp2_with fail
            go_ret
            exact ⟨by rw [show R = 3 from HR.out.symm.trans (by simp)]; rfl, hb5⟩
          | false =>
            rcases hz with ⟨hz1, hz2⟩ | ⟨hz1, hz2⟩
            · skip
              go_enter Tryd.func36, Tryd.ntmps36
              go_wp2_with fail
              refine (cC.out _ hv).mono ?_
              rintro e w1 ⟨rfl, hc10⟩
              have hc1 := hc10.below w.heap.size
              have hb1 := hc1
              have hv2 := hv.below hb1
              go_wp2_with fail
              refine (cL.out _ hv2).mono ?_
              rintro e w2 ⟨rfl, hc2⟩
              have hb2 := hb1.trans (hc2.mono hb1.size)
              go_wp2_with fail
              refine (cA.out _).mono ?_
              rintro e w3 ⟨rfl, hc3⟩
              have hb3 := hb2.trans (hc3.mono hb2.size)
              go_wp2_with fail
              refine (cA1.out _).mono ?_
              rintro e w4 ⟨rfl, hc4⟩
              have hb4 := hb3.trans (hc4.mono hb3.size)
              go_wp2_with fail
              refine (cA2.out _).mono ?_
              rintro e w5 ⟨rfl, hc5⟩
              have hb5 := hb4.trans (hc5.mono hb4.size)
              go_wp2_with fail
              go_ret
              exact ⟨by rw [show R = 4 from HR.out.symm.trans (by simp [hz1])]; rfl, hb5⟩
            · skip
              cases I with
              | true =>
                go_enter Tryd.func36, Tryd.ntmps36
                go_wp2_with fail
                refine (cC.out _ hv).mono ?_
                rintro e w1 ⟨rfl, hc10⟩
                have hc1 := hc10.below w.heap.size
                have hb1 := hc1
                have hv2 := hv.below hb1
                go_wp2_with fail
                refine (cL.out _ hv2).mono ?_
                rintro e w2 ⟨rfl, hc2⟩
                have hb2 := hb1.trans (hc2.mono hb1.size)
                go_wp2_with fail
                refine (cA.out _).mono ?_
                rintro e w3 ⟨rfl, hc3⟩
                have hb3 := hb2.trans (hc3.mono hb2.size)
                go_wp2_with fail
                refine (cA1.out _).mono ?_
                rintro e w4 ⟨rfl, hc4⟩
                have hb4 := hb3.trans (hc4.mono hb3.size)
                go_wp2_with fail
                refine (cA2.out _).mono ?_
                rintro e w5 ⟨rfl, hc5⟩
                have hb5 := hb4.trans (hc5.mono hb4.size)
                have hv6 := hv.below hb5
                go_wp2_with fail
                refine (cI.out _ hv6).mono ?_
                rintro e w6 ⟨rfl, hc6⟩
                have hb6 := hb5.trans (hc6.mono hb5.size)
                go_wp2_with fail
                go_ret
                exact ⟨by rw [show R = 5 from HR.out.symm.trans (by simp [hz1])]; rfl, hb6⟩
              | false =>
                cases I1 with
                | true =>
                  cases I2 with
                  | true =>
                    go_enter Tryd.func36, Tryd.ntmps36
                    go_wp2_with fail
                    refine (cC.out _ hv).mono ?_
                    rintro e w1 ⟨rfl, hc10⟩
                    have hc1 := hc10.below w.heap.size
                    have hb1 := hc1
                    have hv2 := hv.below hb1
                    go_wp2_with fail
                    refine (cL.out _ hv2).mono ?_
                    rintro e w2 ⟨rfl, hc2⟩
                    have hb2 := hb1.trans (hc2.mono hb1.size)
                    go_wp2_with fail
                    refine (cA.out _).mono ?_
                    rintro e w3 ⟨rfl, hc3⟩
                    have hb3 := hb2.trans (hc3.mono hb2.size)
                    go_wp2_with fail
                    refine (cA1.out _).mono ?_
                    rintro e w4 ⟨rfl, hc4⟩
                    have hb4 := hb3.trans (hc4.mono hb3.size)
                    go_wp2_with fail
                    refine (cA2.out _).mono ?_
                    rintro e w5 ⟨rfl, hc5⟩
                    have hb5 := hb4.trans (hc5.mono hb4.size)
                    have hv6 := hv.below hb5
                    go_wp2_with fail
                    refine (cI.out _ hv6).mono ?_
                    rintro e w6 ⟨rfl, hc6⟩
                    have hb6 := hb5.trans (hc6.mono hb5.size)
                    have hv7 := hv.below hb6
                    go_wp2_with fail
                    refine (cI1.out _ hv7).mono ?_
                    rintro e w7 ⟨rfl, hc7⟩
                    have hb7 := hb6.trans (hc7.mono hb6.size)
                    have hv8 := hv.below hb7
                    go_wp2_with fail
                    refine (cI2.out _ hv8).mono ?_
                    rintro e w8 ⟨rfl, hc8⟩
                    have hb8 := hb7.trans (hc8.mono hb7.size)
                    go_wp2_with fail
                    go_ret
                    exact ⟨by rw [show R = 5 from HR.out.symm.trans (by simp [hz1])]; rfl, hb8⟩
                  | false =>
                    go_enter Tryd.func36, Tryd.ntmps36
                    go_wp2_with fail
                    refine (cC.out _ hv).mono ?_
                    rintro e w1 ⟨rfl, hc10⟩
                    have hc1 := hc10.below w.heap.size
                    have hb1 := hc1
                    have hv2 := hv.below hb1
                    go_wp2_with fail
                    refine (cL.out _ hv2).mono ?_
                    rintro e w2 ⟨rfl, hc2⟩
                    have hb2 := hb1.trans (hc2.mono hb1.size)
                    go_wp2_with fail
                    refine (cA.out _).mono ?_
                    rintro e w3 ⟨rfl, hc3⟩
                    have hb3 := hb2.trans (hc3.mono hb2.size)
                    go_wp2_with fail
                    refine (cA1.out _).mono ?_
                    rintro e w4 ⟨rfl, hc4⟩
                    have hb4 := hb3.trans (hc4.mono hb3.size)
                    go_wp2_with fail
                    refine (cA2.out _).mono ?_
                    rintro e w5 ⟨rfl, hc5⟩
                    have hb5 := hb4.trans (hc5.mono hb4.size)
                    have hv6 := hv.below hb5
                    go_wp2_with fail
                    refine (cI.out _ hv6).mono ?_
                    rintro e w6 ⟨rfl, hc6⟩
                    have hb6 := hb5.trans (hc6.mono hb5.size)
                    have hv7 := hv.below hb6
                    go_wp2_with fail
                    refine (cI1.out _ hv7).mono ?_
                    rintro e w7 ⟨rfl, hc7⟩
                    have hb7 := hb6.trans (hc7.mono hb6.size)
                    have hv8 := hv.below hb7
                    go_wp2_with fail
                    refine (cI2.out _ hv8).mono ?_
                    rintro e w8 ⟨rfl, hc8⟩
                    have hb8 := hb7.trans (hc8.mono hb7.size)
                    go_wp2_with fail
                    go_ret
                    exact ⟨by rw [show R = 0 from HR.out.symm.trans (by simp [hz1])]; rfl, hb8⟩
                | false =>
                  go_enter Tryd.func36, Tryd.ntmps36
                  go_wp2_with fail
                  refine (cC.out _ hv).mono ?_
                  rintro e w1 ⟨rfl, hc10⟩
                  have hc1 := hc10.below w.heap.size
                  have hb1 := hc1
                  have hv2 := hv.below hb1
                  go_wp2_with fail
                  refine (cL.out _ hv2).mono ?_
                  rintro e w2 ⟨rfl, hc2⟩
                  have hb2 := hb1.trans (hc2.mono hb1.size)
                  go_wp2_with fail
                  refine (cA.out _).mono ?_
                  rintro e w3 ⟨rfl, hc3⟩
                  have hb3 := hb2.trans (hc3.mono hb2.size)
                  go_wp2_with fail
                  refine (cA1.out _).mono ?_
                  rintro e w4 ⟨rfl, hc4⟩
                  have hb4 := hb3.trans (hc4.mono hb3.size)
                  go_wp2_with fail
                  refine (cA2.out _).mono ?_
                  rintro e w5 ⟨rfl, hc5⟩
                  have hb5 := hb4.trans (hc5.mono hb4.size)
                  have hv6 := hv.below hb5
                  go_wp2_with fail
                  refine (cI.out _ hv6).mono ?_
                  rintro e w6 ⟨rfl, hc6⟩
                  have hb6 := hb5.trans (hc6.mono hb5.size)
                  have hv7 := hv.below hb6
                  go_wp2_with fail
                  refine (cI1.out _ hv7).mono ?_
                  rintro e w7 ⟨rfl, hc7⟩
                  have hb7 := hb6.trans (hc7.mono hb6.size)
                  go_wp2_with fail
                  go_ret
                  exact ⟨by rw [show R = 0 from HR.out.symm.trans (by simp [hz1])]; rfl, hb7⟩
      | false =>
        cases L with
        | true =>
          go_enter Tryd.func36, Tryd.ntmps36
          go_wp2_with fail
          refine (cC.out _ hv).mono ?_
          rintro e w1 ⟨rfl, hc10⟩
          have hc1 := hc10.below w.heap.size
          have hb1 := hc1
          have hv2 := hv.below hb1
          go_wp2_with fail
          refine (cL.out _ hv2).mono ?_
          rintro e w2 ⟨rfl, hc2⟩
          have hb2 := hb1.trans (hc2.mono hb1.size)
          go_wp2_with fail
          refine (cA.out _).mono ?_
          rintro e w3 ⟨rfl, hc3⟩
          have hb3 := hb2.trans (hc3.mono hb2.size)
          go_wp2_with fail
          refine (cA1.out _).mono ?_
          rintro e w4 ⟨rfl, hc4⟩
          have hb4 := hb3.trans (hc4.mono hb3.size)
          go_wp2_with fail
          go_ret
          exact ⟨by rw [show R = 3 from HR.out.symm.trans (by simp)]; rfl, hb4⟩
        | false =>
          rcases hz with ⟨hz1, hz2⟩ | ⟨hz1, hz2⟩
          · skip
            go_enter Tryd.func36, Tryd.ntmps36
            go_wp2_with fail
            refine (cC.out _ hv).mono ?_
            rintro e w1 ⟨rfl, hc10⟩
            have hc1 := hc10.below w.heap.size
            have hb1 := hc1
            have hv2 := hv.below hb1
            go_wp2_with fail
            refine (cL.out _ hv2).mono ?_
            rintro e w2 ⟨rfl, hc2⟩
            have hb2 := hb1.trans (hc2.mono hb1.size)
            go_wp2_with fail
            refine (cA.out _).mono ?_
            rintro e w3 ⟨rfl, hc3⟩
            have hb3 := hb2.trans (hc3.mono hb2.size)
            go_wp2_with fail
            refine (cA1.out _).mono ?_
            rintro e w4 ⟨rfl, hc4⟩
            have hb4 := hb3.trans (hc4.mono hb3.size)
            go_wp2_with fail
            go_ret
            exact ⟨by rw [show R = 4 from HR.out.symm.trans (by simp [hz1])]; rfl, hb4⟩
          · skip
            cases I with
            | true =>
              go_enter Tryd.func36, Tryd.ntmps36
              go_wp2_with fail
              refine (cC.out _ hv).mono ?_
              rintro e w1 ⟨rfl, hc10⟩
              have hc1 := hc10.below w.heap.size
              have hb1 := hc1
              have hv2 := hv.below hb1
              go_wp2_with fail
              refine (cL.out _ hv2).mono ?_
              rintro e w2 ⟨rfl, hc2⟩
              have hb2 := hb1.trans (hc2.mono hb1.size)
              go_wp2_with fail
              refine (cA.out _).mono ?_
              rintro e w3 ⟨rfl, hc3⟩
              have hb3 := hb2.trans (hc3.mono hb2.size)
              go_wp2_with fail
              refine (cA1.out _).mono ?_
              rintro e w4 ⟨rfl, hc4⟩
              have hb4 := hb3.trans (hc4.mono hb3.size)
              have hv5 := hv.below hb4
              go_wp2_with fail
              refine (cI.out _ hv5).mono ?_
              rintro e w5 ⟨rfl, hc5⟩
              have hb5 := hb4.trans (hc5.mono hb4.size)
              go_wp2_with fail
              go_ret
              exact ⟨by rw [show R = 5 from HR.out.symm.trans (by simp [hz1])]; rfl, hb5⟩
            | false =>
              cases I1 with
              | true =>
                cases I2 with
                | true =>
                  go_enter Tryd.func36, Tryd.ntmps36
                  go_wp2_with fail
                  refine (cC.out _ hv).mono ?_
                  rintro e w1 ⟨rfl, hc10⟩
                  have hc1 := hc10.below w.heap.size
                  have hb1 := hc1
                  have hv2 := hv.below hb1
                  go_wp2_with fail
                  refine (cL.out _ hv2).mono ?_
                  rintro e w2 ⟨rfl, hc2⟩
                  have hb2 := hb1.trans (hc2.mono hb1.size)
                  go_wp2_with fail
                  refine (cA.out _).mono ?_
                  rintro e w3 ⟨rfl, hc3⟩
                  have hb3 := hb2.trans (hc3.mono hb2.size)
                  go_wp2_with fail
                  refine (cA1.out _).mono ?_
                  rintro e w4 ⟨rfl, hc4⟩
                  have hb4 := hb3.trans (hc4.mono hb3.size)
                  have hv5 := hv.below hb4
                  go_wp2_with fail
                  refine (cI.out _ hv5).mono ?_
                  rintro e w5 ⟨rfl, hc5⟩
                  have hb5 := hb4.trans (hc5.mono hb4.size)
                  have hv6 := hv.below hb5
                  go_wp2_with fail
                  refine (cI1.out _ hv6).mono ?_
                  rintro e w6 ⟨rfl, hc6⟩
                  have hb6 := hb5.trans (hc6.mono hb5.size)
                  have hv7 := hv.below hb6
                  go_wp2_with fail
                  refine (cI2.out _ hv7).mono ?_
                  rintro e w7 ⟨rfl, hc7⟩
                  have hb7 := hb6.trans (hc7.mono hb6.size)
                  go_wp2_with fail
                  go_ret
                  exact ⟨by rw [show R = 5 from HR.out.symm.trans (by simp [hz1])]; rfl, hb7⟩
                | false =>
                  go_enter Tryd.func36, Tryd.ntmps36
                  go_wp2_with fail
                  refine (cC.out _ hv).mono ?_
                  rintro e w1 ⟨rfl, hc10⟩
                  have hc1 := hc10.below w.heap.size
                  have hb1 := hc1
                  have hv2 := hv.below hb1
                  go_wp2_with fail
                  refine (cL.out _ hv2).mono ?_
                  rintro e w2 ⟨rfl, hc2⟩
                  have hb2 := hb1.trans (hc2.mono hb1.size)
                  go_wp2_with fail
                  refine (cA.out _).mono ?_
                  rintro e w3 ⟨rfl, hc3⟩
                  have hb3 := hb2.trans (hc3.mono hb2.size)
                  go_wp2_with fail
                  refine (cA1.out _).mono ?_
                  rintro e w4 ⟨rfl, hc4⟩
                  have hb4 := hb3.trans (hc4.mono hb3.size)
                  have hv5 := hv.below hb4
                  go_wp2_with fail
                  refine (cI.out _ hv5).mono ?_
                  rintro e w5 ⟨rfl, hc5⟩
                  have hb5 := hb4.trans (hc5.mono hb4.size)
                  have hv6 := hv.below hb5
                  go_wp2_with fail
                  refine (cI1.out _ hv6).mono ?_
                  rintro e w6 ⟨rfl, hc6⟩
                  have hb6 := hb5.trans (hc6.mono hb5.size)
                  have hv7 := hv.below hb6
                  go_wp2_with fail
                  refine (cI2.out _ hv7).mono ?_
                  rintro e w7 ⟨rfl, hc7⟩
                  have hb7 := hb6.trans (hc7.mono hb6.size)
                  go_wp2_with fail
                  go_ret
                  exact ⟨by rw [show R = 0 from HR.out.symm.trans (by simp [hz1])]; rfl, hb7⟩
              | false =>
                go_enter Tryd.func36, Tryd.ntmps36
                go_wp2_with fail
                refine (cC.out _ hv).mono ?_
                rintro e w1 ⟨rfl, hc10⟩
                have hc1 := hc10.below w.heap.size
                have hb1 := hc1
                have hv2 := hv.below hb1
                go_wp2_with fail
                refine (cL.out _ hv2).mono ?_
                rintro e w2 ⟨rfl, hc2⟩
                have hb2 := hb1.trans (hc2.mono hb1.size)
                go_wp2_with fail
                refine (cA.out _).mono ?_
                rintro e w3 ⟨rfl, hc3⟩
                have hb3 := hb2.trans (hc3.mono hb2.size)
                go_wp2_with fail
                refine (cA1.out _).mono ?_
                rintro e w4 ⟨rfl, hc4⟩
                have hb4 := hb3.trans (hc4.mono hb3.size)
                have hv5 := hv.below hb4
                go_wp2_with fail
                refine (cI.out _ hv5).mono ?_
                rintro e w5 ⟨rfl, hc5⟩
                have hb5 := hb4.trans (hc5.mono hb4.size)
                have hv6 := hv.below hb5
                go_wp2_with fail
                refine (cI1.out _ hv6).mono ?_
                rintro e w6 ⟨rfl, hc6⟩
                have hb6 := hb5.trans (hc6.mono hb5.size)
                go_wp2_with fail
                go_ret
                exact ⟨by rw [show R = 0 from HR.out.symm.trans (by simp [hz1])]; rfl, hb6⟩
    | false =>
      cases L with
      | true =>
        go_enter Tryd.func36, Tryd.ntmps36
        go_wp2_with fail
        refine (cC.out _ hv).mono ?_
        rintro e w1 ⟨rfl, hc10⟩
        have hc1 := hc10.below w.heap.size
        have hb1 := hc1
        have hv2 := hv.below hb1
        go_wp2_with fail
        refine (cL.out _ hv2).mono ?_
        rintro e w2 ⟨rfl, hc2⟩
        have hb2 := hb1.trans (hc2.mono hb1.size)
        go_wp2_with fail
        refine (cA.out _).mono ?_
        rintro e w3 ⟨rfl, hc3⟩
        have hb3 := hb2.trans (hc3.mono hb2.size)
        go_wp2_with fail
        go_ret
        exact ⟨by rw [show R = 3 from HR.out.symm.trans (by simp)]; rfl, hb3⟩
      | false =>
        rcases hz with ⟨hz1, hz2⟩ | ⟨hz1, hz2⟩
        · skip
          go_enter Tryd.func36, Tryd.ntmps36
          go_wp2_with fail
          refine (cC.out _ hv).mono ?_
          rintro e w1 ⟨rfl, hc10⟩
          have hc1 := hc10.below w.heap.size
          have hb1 := hc1
          have hv2 := hv.below hb1
          go_wp2_with fail
          refine (cL.out _ hv2).mono ?_
          rintro e w2 ⟨rfl, hc2⟩
          have hb2 := hb1.trans (hc2.mono hb1.size)
          go_wp2_with fail
          refine (cA.out _).mono ?_
          rintro e w3 ⟨rfl, hc3⟩
          have hb3 := hb2.trans (hc3.mono hb2.size)
          go_wp2_with fail
          go_ret
          exact ⟨by rw [show R = 4 from HR.out.symm.trans (by simp [hz1])]; rfl, hb3⟩
        · skip
          cases I with
          | true =>
            go_enter Tryd.func36, Tryd.ntmps36
            go_wp2_with fail
            refine (cC.out _ hv).mono ?_
            rintro e w1 ⟨rfl, hc10⟩
            have hc1 := hc10.below w.heap.size
            have hb1 := hc1
            have hv2 := hv.below hb1
            go_wp2_with fail
            refine (cL.out _ hv2).mono ?_
            rintro e w2 ⟨rfl, hc2⟩
            have hb2 := hb1.trans (hc2.mono hb1.size)
            go_wp2_with fail
            refine (cA.out _).mono ?_
            rintro e w3 ⟨rfl, hc3⟩
            have hb3 := hb2.trans (hc3.mono hb2.size)
            have hv4 := hv.below hb3
            go_wp2_with fail
            refine (cI.out _ hv4).mono ?_
            rintro e w4 ⟨rfl, hc4⟩
            have hb4 := hb3.trans (hc4.mono hb3.size)
            go_wp2_with fail
            go_ret
            exact ⟨by rw [show R = 5 from HR.out.symm.trans (by simp [hz1])]; rfl, hb4⟩
          | false =>
            go_enter Tryd.func36, Tryd.ntmps36
            go_wp2_with fail
            refine (cC.out _ hv).mono ?_
            rintro e w1 ⟨rfl, hc10⟩
            have hc1 := hc10.below w.heap.size
            have hb1 := hc1
            have hv2 := hv.below hb1
            go_wp2_with fail
            refine (cL.out _ hv2).mono ?_
            rintro e w2 ⟨rfl, hc2⟩
            have hb2 := hb1.trans (hc2.mono hb1.size)
            go_wp2_with fail
            refine (cA.out _).mono ?_
            rintro e w3 ⟨rfl, hc3⟩
            have hb3 := hb2.trans (hc3.mono hb2.size)
            have hv4 := hv.below hb3
            go_wp2_with fail
            refine (cI.out _ hv4).mono ?_
            rintro e w4 ⟨rfl, hc4⟩
            have hb4 := hb3.trans (hc4.mono hb3.size)
            go_wp2_with fail
            go_ret
            exact ⟨by rw [show R = 0 from HR.out.symm.trans (by simp [hz1])]; rfl, hb4⟩
end Go.Proofs.YtlideagcmhlkeaaDoor

/- The walks of the reference's Kind, of both Parts, of right and Add (chapter 21). -/
namespace Go.Proofs.YtlideagcmhlkeaaDoor
open Go.RowKit Go.Lib
set_option linter.unusedVariables false

set_option maxRecDepth 100000 in
set_option maxHeartbeats 8000000 in
theorem parts_any (s : ByteArray) (w : World) (hs : s.size ≤ 1100000) (hv : Vars21 w) :
    Calls Tryd.prog 37 #[.string s] w fun e w' => e = .returned (.tuple #[.string (str (P21.parts (P4.bl s)).1), .string (str (P21.parts (P4.bl s)).2.1), .bool (P21.parts (P4.bl s)).2.2]) ∧ Below w.heap.size w w' := by
  have cC : Hid (∀ W, Vars21 W → Calls Tryd.prog 66 #[.string s, .string (str [47])] W fun e w' => e = .returned (.tuple #[.string (str (P21.slash (P4.bl s)).1), .string (str (P21.slash (P4.bl s)).2.1), .bool (P21.slash (P4.bl s)).2.2]) ∧ Q W w') := fun W h => cut21 s [47] W hs h
  have cK : Hid (∀ W, Vars21 W → Calls Tryd.prog 36 #[.string s] W fun e w' => e = .returned (.int .i64 (P21.kind (P4.bl s))) ∧ Below W.heap.size W w') := fun W h => kind_any s W hs h
  have hR : P21.parts (P4.bl s) = if ((P21.slash (P4.bl s)).2.2 && (decide (P21.kind (P4.bl s) = 2) || decide (P21.kind (P4.bl s) = 5))) = true then ((P21.slash (P4.bl s)).1, (P21.slash (P4.bl s)).2.1, true) else ([], [], false) := rfl
  have hK := P21.kind_cases (P4.bl s)
  generalize P21.parts (P4.bl s) = R at hR ⊢
  generalize P21.kind (P4.bl s) = K at hR cK hK
  generalize P21.slash (P4.bl s) = U at hR cC
  obtain ⟨ua, ub, T⟩ := U
  simp only at hR cC
  cases T with
  | true =>
    rcases hK with rfl | rfl | rfl | rfl | rfl | rfl
    · have HR := Lib.hid (hR.trans (show _ = (([], [], false) : List UInt8 × List UInt8 × Bool) by simp))
      clear hR hs
      go_enter Tryd.func37, Tryd.ntmps37
      go_wp2_with fail
      refine (cC.out _ hv).mono ?_
      rintro e w1 ⟨rfl, hc10⟩
      have hb1 := hc10.below w.heap.size
      have hv2 := hv.below hb1
      go_wp2_with fail
      refine (cK.out _ hv2).mono ?_
      rintro e w2 ⟨rfl, hc2⟩
      have hb2 := hb1.trans (hc2.mono hb1.size)
      go_wp2_with fail
      go_ret3
      exact ⟨by rw [HR.out]; rfl, hb2⟩
    · have HR := Lib.hid (hR.trans (show _ = (([], [], false) : List UInt8 × List UInt8 × Bool) by simp))
      clear hR hs
      go_enter Tryd.func37, Tryd.ntmps37
      go_wp2_with fail
      refine (cC.out _ hv).mono ?_
      rintro e w1 ⟨rfl, hc10⟩
      have hb1 := hc10.below w.heap.size
      have hv2 := hv.below hb1
      go_wp2_with fail
      refine (cK.out _ hv2).mono ?_
      rintro e w2 ⟨rfl, hc2⟩
      have hb2 := hb1.trans (hc2.mono hb1.size)
      go_wp2_with fail
      go_ret3
      exact ⟨by rw [HR.out]; rfl, hb2⟩
    · have HR := Lib.hid (hR.trans (show _ = ((ua, ub, true) : List UInt8 × List UInt8 × Bool) by simp))
      clear hR hs
      go_enter Tryd.func37, Tryd.ntmps37
      go_wp2_with fail
      refine (cC.out _ hv).mono ?_
      rintro e w1 ⟨rfl, hc10⟩
      have hb1 := hc10.below w.heap.size
      have hv2 := hv.below hb1
      go_wp2_with fail
      refine (cK.out _ hv2).mono ?_
      rintro e w2 ⟨rfl, hc2⟩
      have hb2 := hb1.trans (hc2.mono hb1.size)
      go_wp2_with fail
      go_ret3
      exact ⟨by rw [HR.out]; rfl, hb2⟩
    · have HR := Lib.hid (hR.trans (show _ = (([], [], false) : List UInt8 × List UInt8 × Bool) by simp))
      clear hR hs
      go_enter Tryd.func37, Tryd.ntmps37
      go_wp2_with fail
      refine (cC.out _ hv).mono ?_
      rintro e w1 ⟨rfl, hc10⟩
      have hb1 := hc10.below w.heap.size
      have hv2 := hv.below hb1
      go_wp2_with fail
      refine (cK.out _ hv2).mono ?_
      rintro e w2 ⟨rfl, hc2⟩
      have hb2 := hb1.trans (hc2.mono hb1.size)
      go_wp2_with fail
      go_ret3
      exact ⟨by rw [HR.out]; rfl, hb2⟩
    · have HR := Lib.hid (hR.trans (show _ = (([], [], false) : List UInt8 × List UInt8 × Bool) by simp))
      clear hR hs
      go_enter Tryd.func37, Tryd.ntmps37
      go_wp2_with fail
      refine (cC.out _ hv).mono ?_
      rintro e w1 ⟨rfl, hc10⟩
      have hb1 := hc10.below w.heap.size
      have hv2 := hv.below hb1
      go_wp2_with fail
      refine (cK.out _ hv2).mono ?_
      rintro e w2 ⟨rfl, hc2⟩
      have hb2 := hb1.trans (hc2.mono hb1.size)
      go_wp2_with fail
      go_ret3
      exact ⟨by rw [HR.out]; rfl, hb2⟩
    · have HR := Lib.hid (hR.trans (show _ = ((ua, ub, true) : List UInt8 × List UInt8 × Bool) by simp))
      clear hR hs
      go_enter Tryd.func37, Tryd.ntmps37
      go_wp2_with fail
      refine (cC.out _ hv).mono ?_
      rintro e w1 ⟨rfl, hc10⟩
      have hb1 := hc10.below w.heap.size
      have hv2 := hv.below hb1
      go_wp2_with fail
      refine (cK.out _ hv2).mono ?_
      rintro e w2 ⟨rfl, hc2⟩
      have hb2 := hb1.trans (hc2.mono hb1.size)
      go_wp2_with fail
      go_ret3
      exact ⟨by rw [HR.out]; rfl, hb2⟩
  | false =>
    rcases hK with rfl | rfl | rfl | rfl | rfl | rfl
    · have HR := Lib.hid (hR.trans (show _ = (([], [], false) : List UInt8 × List UInt8 × Bool) by simp))
      clear hR hs
      go_enter Tryd.func37, Tryd.ntmps37
      go_wp2_with fail
      refine (cC.out _ hv).mono ?_
      rintro e w1 ⟨rfl, hc10⟩
      have hb1 := hc10.below w.heap.size
      have hv2 := hv.below hb1
      go_wp2_with fail
      refine (cK.out _ hv2).mono ?_
      rintro e w2 ⟨rfl, hc2⟩
      have hb2 := hb1.trans (hc2.mono hb1.size)
      go_wp2_with fail
      go_ret3
      exact ⟨by rw [HR.out]; rfl, hb2⟩
    · have HR := Lib.hid (hR.trans (show _ = (([], [], false) : List UInt8 × List UInt8 × Bool) by simp))
      clear hR hs
      go_enter Tryd.func37, Tryd.ntmps37
      go_wp2_with fail
      refine (cC.out _ hv).mono ?_
      rintro e w1 ⟨rfl, hc10⟩
      have hb1 := hc10.below w.heap.size
      have hv2 := hv.below hb1
      go_wp2_with fail
      refine (cK.out _ hv2).mono ?_
      rintro e w2 ⟨rfl, hc2⟩
      have hb2 := hb1.trans (hc2.mono hb1.size)
      go_wp2_with fail
      go_ret3
      exact ⟨by rw [HR.out]; rfl, hb2⟩
    · have HR := Lib.hid (hR.trans (show _ = (([], [], false) : List UInt8 × List UInt8 × Bool) by simp))
      clear hR hs
      go_enter Tryd.func37, Tryd.ntmps37
      go_wp2_with fail
      refine (cC.out _ hv).mono ?_
      rintro e w1 ⟨rfl, hc10⟩
      have hb1 := hc10.below w.heap.size
      have hv2 := hv.below hb1
      go_wp2_with fail
      refine (cK.out _ hv2).mono ?_
      rintro e w2 ⟨rfl, hc2⟩
      have hb2 := hb1.trans (hc2.mono hb1.size)
      go_wp2_with fail
      go_ret3
      exact ⟨by rw [HR.out]; rfl, hb2⟩
    · have HR := Lib.hid (hR.trans (show _ = (([], [], false) : List UInt8 × List UInt8 × Bool) by simp))
      clear hR hs
      go_enter Tryd.func37, Tryd.ntmps37
      go_wp2_with fail
      refine (cC.out _ hv).mono ?_
      rintro e w1 ⟨rfl, hc10⟩
      have hb1 := hc10.below w.heap.size
      have hv2 := hv.below hb1
      go_wp2_with fail
      refine (cK.out _ hv2).mono ?_
      rintro e w2 ⟨rfl, hc2⟩
      have hb2 := hb1.trans (hc2.mono hb1.size)
      go_wp2_with fail
      go_ret3
      exact ⟨by rw [HR.out]; rfl, hb2⟩
    · have HR := Lib.hid (hR.trans (show _ = (([], [], false) : List UInt8 × List UInt8 × Bool) by simp))
      clear hR hs
      go_enter Tryd.func37, Tryd.ntmps37
      go_wp2_with fail
      refine (cC.out _ hv).mono ?_
      rintro e w1 ⟨rfl, hc10⟩
      have hb1 := hc10.below w.heap.size
      have hv2 := hv.below hb1
      go_wp2_with fail
      refine (cK.out _ hv2).mono ?_
      rintro e w2 ⟨rfl, hc2⟩
      have hb2 := hb1.trans (hc2.mono hb1.size)
      go_wp2_with fail
      go_ret3
      exact ⟨by rw [HR.out]; rfl, hb2⟩
    · have HR := Lib.hid (hR.trans (show _ = (([], [], false) : List UInt8 × List UInt8 × Bool) by simp))
      clear hR hs
      go_enter Tryd.func37, Tryd.ntmps37
      go_wp2_with fail
      refine (cC.out _ hv).mono ?_
      rintro e w1 ⟨rfl, hc10⟩
      have hb1 := hc10.below w.heap.size
      have hv2 := hv.below hb1
      go_wp2_with fail
      refine (cK.out _ hv2).mono ?_
      rintro e w2 ⟨rfl, hc2⟩
      have hb2 := hb1.trans (hc2.mono hb1.size)
      go_wp2_with fail
      go_ret3
      exact ⟨by rw [HR.out]; rfl, hb2⟩
end Go.Proofs.YtlideagcmhlkeaaDoor
