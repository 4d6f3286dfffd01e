/- The walk of saves (chapter 20), and the examples of the chapter as tables. -/
import Derived.Test.YtmgmgdjddimgmaaDoorNum20h
import Derived.Deep.RegionHeld3
namespace Go.Proofs.YtmgmgdjddimgmaaDoor
open Go.RowKit
set_option linter.unusedVariables false

theorem flat_at {α β : Type} {f : α → List β} {m : Nat} (hf : ∀ a, (f a).length = m) : ∀ (l : List α) (k j : Nat) (x : α), j < m → l[k]? = some x → (l.flatMap f)[k * m + j]? = (f x)[j]?
  | [], k, j, x, _, h => by simp at h
  | a :: l, 0, j, x, hj, h => by
    simp only [List.getElem?_cons_zero, Option.some.injEq] at h
    subst h
    rw [List.flatMap_cons, Nat.zero_mul, Nat.zero_add, List.getElem?_append_left (by rw [hf]; exact hj)]
  | a :: l, k + 1, j, x, hj, h => by
    simp only [List.getElem?_cons_succ] at h
    rw [List.flatMap_cons, List.getElem?_append_right (by rw [hf, Nat.succ_mul]; omega), hf, show (k + 1) * m + j - m = k * m + j by rw [Nat.succ_mul]; omega]
    exact flat_at hf l k j x hj h
/-- the rule that saves makes -/
def mkR (x : Int) : RV := ⟨⟨#[82]⟩, 0, 0, 0, 0, 0, 0, 0, 0, x, ⟨#[]⟩⟩
theorem svs_mk (L : List Int) : svs (L.map mkR) = L := by unfold svs; rw [List.map_map]; exact List.map_id _
theorem infoRule : (Tryd.prog.info? 48).map (fun i => (i.zero, i.size, i.bytes)) = some (some (.agg #[.string ⟨#[]⟩, .int .i64 0, .int .i64 0, .int .i64 0, .int .i64 0, .int .i64 0, .int .i64 0, .int .i64 0, .int .i64 0, .int .i64 0, .string ⟨#[]⟩]), 11, 104) := by kernel_rfl
def rcells (L : List RV) : List Value := L.flatMap RV.cells
theorem rcells_snoc (L : List RV) (r : RV) : rcells (L ++ [r]) = rcells L ++ r.cells := by unfold rcells; rw [List.flatMap_append]; simp
theorem cells_len (r : RV) : r.cells.length = 11 := rfl
/-- a row of the call's own that reads as rules -/
theorem rules_of_own {w : World} {base n : Nat} {v : Value} {L : List RV} (h : w.ownsRow base 48 11 v n (rcells L)) (hn : n = L.length) (h0 : 0 < n) : ∃ A c, v = .slice A L.length c ∧ RulesIn w A L := by
  obtain ⟨B, cap, hv, hB, hlt, hcap, hc⟩ := own_form h h0
  refine ⟨some ⟨B, 0, none⟩, cap, by rw [hv, hn], fun k r hr => ⟨B, 0, rfl, hlt, fun j u hu => ?_⟩⟩
  have hj : j < 11 := by have := (List.getElem?_eq_some_iff.mp hu).1; rwa [cells_len] at this
  rw [Nat.zero_add]
  exact hc _ _ ((flat_at cells_len L k j r hj hr).trans hu)
def mkT (L : List Int) (k : Nat) : List RV := (L.take k).map mkR
/-- what saves returns -/
def SavesRes (w : World) (L : List Int) (e : Ending) (w' : World) : Prop := ∃ A c, e = .returned (.slice A L.length c) ∧ RulesIn w' A (L.map mkR) ∧ Below w.heap.size w w'
set_option maxRecDepth 100000 in
set_option maxHeartbeats 4000000 in
theorem saves_any (B c : Nat) (L : List Int) (w : World) (hL0 : 0 < L.length) (hL3 : L.length ≤ 3) (hI : IntsIn w B L) :
    Calls Tryd.prog 18 #[.slice (some ⟨B, 0, none⟩) L.length c] w (SavesRes w L) := by
  have hli : (L.length : Int) ≤ 3 := by omega
  have HBlt := Lib.hid hI.1
  have hO : w.ownsRow w.heap.size 48 11 (.slice none 0 0) 0 (rcells (mkT L 0)) := ⟨rfl, .inl ⟨rfl, rfl⟩⟩
  go_enter Tryd.func18, Tryd.ntmps18
  go_wp2_with fail
  go_loopw [3, 8] (fun v i wr => ∃ k : Nat, k ≤ L.length ∧ i = .int .i64 k ∧ wr.ownsRow w.heap.size 48 11 v k (rcells (mkT L k)) ∧ IntsIn wr B L ∧ Below w.heap.size w wr) (fun _ i _ => L.length - (intOf i).toNat)
  case atStart => exact ⟨0, Nat.zero_le _, rfl, hO, hI, Below.refl _ _⟩
  case round =>
    clear hO hI
    obtain ⟨k, hk, rfl, hO, hI, hb⟩ := hrel
    by_cases hlt : k < L.length
    · obtain ⟨x, hx⟩ : ∃ x, L[k]? = some x := ⟨_, List.getElem?_eq_getElem hlt⟩
      have c0 := hI.2 k x hx
      have hki : (k : Int) < (L.length : Int) := by omega
      have HS : Hid (rcells (mkT L (k + 1)) = rcells (mkT L k) ++ (mkR x).cells) := by
        rw [mkT, List.take_add_one, hx, List.map_append]
        exact Lib.hid (rcells_snoc _ _)
      have hNB : Hid (Blk (wr.alloc (.cells #[.string ⟨#[82]⟩, .int .i64 0, .int .i64 0, .int .i64 0, .int .i64 0, .int .i64 0, .int .i64 0, .int .i64 0, .int .i64 0, .int .i64 x, .string ⟨#[]⟩] 48)) wr.heap.size 48 #[.string ⟨#[82]⟩, .int .i64 0, .int .i64 0, .int .i64 0, .int .i64 0, .int .i64 0, .int .i64 0, .int .i64 0, .int .i64 0, .int .i64 x, .string ⟨#[]⟩]) := Lib.hid (Blk.new _ _ _)
      have HO := Lib.hid (hO.alloc (.cells #[.string ⟨#[82]⟩, .int .i64 0, .int .i64 0, .int .i64 0, .int .i64 0, .int .i64 0, .int .i64 0, .int .i64 0, .int .i64 0, .int .i64 x, .string ⟨#[]⟩] 48))
      have HI := Lib.hid (hI.alloc (.cells #[.string ⟨#[82]⟩, .int .i64 0, .int .i64 0, .int .i64 0, .int .i64 0, .int .i64 0, .int .i64 0, .int .i64 0, .int .i64 0, .int .i64 x, .string ⟨#[]⟩] 48))
      have HB := Lib.hid (hb.alloc hb.size (.cells #[.string ⟨#[82]⟩, .int .i64 0, .int .i64 0, .int .i64 0, .int .i64 0, .int .i64 0, .int .i64 0, .int .i64 0, .int .i64 0, .int .i64 x, .string ⟨#[]⟩] 48))
      have HK := Lib.hid (show k ≤ 2 by omega)
      obtain ⟨i0, hi, hz0, hz1, hz2⟩ := info_parts infoRule
      clear hO hI hb hx
      go_wp2_with (at_builtin; refine wpList_append_own _ rfl _ _ 36 rfl w.heap.size 48 i0 _ 11 104 Tryd.underlying36 hi hz0 hz1 hz2 rfl (by decide) _ _ _ rfl HO.out ⟨wr.heap.size, 0, none⟩ 1 1 (mkR x).cells rfl rfl (blk_cells hNB.out) (by simp [mkR, RV.cells, Value.oneCell']) (by have := HK.out; simp only [maxLen]; omega) (by have := HK.out; omega) HB.out.size ?_)
      intro v1 wa hown hgr hne
      have hb3 := own_grown HB.out HO.out hgr HB.out.size (Nat.le_refl _)
      have hI2 := HI.out.grown HO.out hgr HBlt.out
      rw [← HS.out] at hown
      clear hgr hne HO HI HB hNB HS
      go_wp2_with fail
      go_roundw
      case rel => exact ⟨k + 1, by omega, by go_num, hown, hI2, hb3⟩
      case measure => simp [intOf]; omega
    · obtain rfl : k = L.length := by omega
      have hki : ¬ (L.length : Int) < (L.length : Int) := by omega
      rw [mkT, List.take_length] at hO
      obtain ⟨A, c', rfl, hRl⟩ := rules_of_own hO (by rw [List.length_map]) hL0
      rw [List.length_map]
      clear hO hI
      go_wp2_with fail
      go_ret
      exact ⟨A, c', rfl, hRl, hb⟩

def tabT20 : List (Int × List UInt8) := [(0, [43, 48, 48]), (3600, [43, 48, 49]), (-12600, [45, 48, 51, 51, 48]), (20700, [43, 48, 53, 52, 53]), (1, [43, 48, 48, 48, 48, 48, 49]), (-86399, [45, 50, 51, 53, 57, 53, 57]), (86400, [])]
theorem tabT20_holds : ∀ x ∈ tabT20, P20.text x.1 = x.2 ∧ -9223372036854775808 ≤ x.1 ∧ x.1 ≤ 9223372036854775807 := by decide +kernel
def tcell (x : Int × List UInt8) : List Value := [.int .i64 x.1, .string (str x.2)]
def arrT20 : Array Value := (tabT20.flatMap tcell).toArray
def tabP20 : List (List UInt8 × Int × Int) := [([43, 48, 53, 52, 53], 20700, 0), ([45, 48, 51], -10800, 0), ([43, 48, 48], 0, 0), ([45, 48, 48], 0, 5), ([43, 48, 48, 48, 48], 0, 5), ([48, 53], 0, 5), ([43, 53], 0, 5), ([43, 50, 52], 0, 5), ([43, 48, 48, 54, 48], 0, 5), ([43, 48, 53, 51, 48, 48, 48], 0, 5)]
theorem tabP20_holds : ∀ x ∈ tabP20, P20.parse x.1 = x.2 ∧ x.1.length ≤ 100 := by decide +kernel
def pcell (x : List UInt8 × Int × Int) : List Value := [.string (str x.1), .int .i64 x.2.1, .int .i64 x.2.2]
def arrP20 : Array Value := (tabP20.flatMap pcell).toArray
structure EX where
  off : Int
  kind : Int
  save : Int
  A : Option Addr
  c : Nat
  L : List RV
  want : List UInt8
  err : Int
def EX.cells (x : EX) : List Value := [.int .i64 x.off, .int .i64 x.kind, .int .i64 x.save, .string ⟨#[]⟩, .string ⟨#[]⟩, .bool false, .int .i64 0, .int .i64 0, .int .i64 0, .int .i64 0, .int .i64 0, .int .i64 0, .int .i64 0, .slice x.A x.L.length x.c, .string (str x.want), .int .i64 x.err]
def arrE (l : List EX) : Array Value := (l.flatMap EX.cells).toArray
theorem arrE_at (l : List EX) (k j : Nat) (x : EX) (hj : j < 16) (h : l[k]? = some x) : (arrE l)[k * 16 + j]? = x.cells[j]? := by
  unfold arrE
  rw [List.getElem?_toArray]
  exact flat_at (m := 16) (fun _ => rfl) l k j x hj h
theorem arrT20_at (k j : Nat) (x : Int × List UInt8) (hj : j < 2) (h : tabT20[k]? = some x) : arrT20[k * 2 + j]? = (tcell x)[j]? := by
  unfold arrT20
  rw [List.getElem?_toArray]
  exact flat_at (m := 2) (fun _ => rfl) tabT20 k j x hj h
theorem arrP20_at (k j : Nat) (x : List UInt8 × Int × Int) (hj : j < 3) (h : tabP20[k]? = some x) : arrP20[k * 3 + j]? = (pcell x)[j]? := by
  unfold arrP20
  rw [List.getElem?_toArray]
  exact flat_at (m := 3) (fun _ => rfl) tabP20 k j x hj h
/-- the examples of Expansion; where the rules lie is open -/
def exs (A1 A2 A3 A4 A5 A6 : Option Addr) (c1 c2 c3 c4 c5 c6 : Nat) : List EX := [⟨18000, 0, 0, A1, c1, [mkR 0, mkR 7200], [43, 48, 53], 0⟩, ⟨18000, 1, 3600, none, 0, [], [43, 48, 54], 0⟩, ⟨18000, 2, 0, A2, c2, [mkR 0, mkR 3600], [43, 48, 53, 47, 43, 48, 54], 0⟩, ⟨18000, 2, 0, A3, c3, [mkR 0], [43, 48, 53], 0⟩,
  ⟨18000, 2, 0, A4, c4, [mkR 0, mkR (-3600)], [43, 48, 53, 47, 43, 48, 52], 0⟩, ⟨18000, 2, 0, A5, c5, [mkR 0, mkR 3600, mkR 7200], [], 14⟩, ⟨84600, 2, 0, A6, c6, [mkR 0, mkR 3600], [], 3⟩, ⟨0, 3, 0, none, 0, [], [], 2⟩]
def EX.Ok (x : EX) : Prop := P20.expansion x.kind x.off x.save (svs x.L) = (x.want, x.err) ∧ (-9223372036854775808 ≤ x.off ∧ x.off ≤ 9223372036854775807) ∧ (-9223372036854775808 ≤ x.save ∧ x.save ≤ 9223372036854775807) ∧ x.L.length ≤ 3 ∧ SvOk x.L
theorem exs_ok (A1 A2 A3 A4 A5 A6 : Option Addr) (c1 c2 c3 c4 c5 c6 : Nat) : ∀ x ∈ exs A1 A2 A3 A4 A5 A6 c1 c2 c3 c4 c5 c6, x.Ok := by
  intro x hx
  simp only [exs, List.mem_cons, List.not_mem_nil, or_false] at hx
  rcases hx with rfl | rfl | rfl | rfl | rfl | rfl | rfl | rfl
  · exact ⟨show P20.expansion 0 18000 0 (svs [mkR (0), mkR (7200)]) = ([43, 48, 53], 0) by decide +kernel, show -9223372036854775808 ≤ (18000 : Int) ∧ (18000 : Int) ≤ 9223372036854775807 by decide, show -9223372036854775808 ≤ (0 : Int) ∧ (0 : Int) ≤ 9223372036854775807 by decide, show [mkR (0), mkR (7200)].length ≤ 3 by decide, show SvOk [mkR (0), mkR (7200)] by unfold SvOk; decide⟩
  · exact ⟨show P20.expansion 1 18000 3600 (svs ([] : List RV)) = ([43, 48, 54], 0) by decide +kernel, show -9223372036854775808 ≤ (18000 : Int) ∧ (18000 : Int) ≤ 9223372036854775807 by decide, show -9223372036854775808 ≤ (3600 : Int) ∧ (3600 : Int) ≤ 9223372036854775807 by decide, show ([] : List RV).length ≤ 3 by decide, show SvOk ([] : List RV) by unfold SvOk; decide⟩
  · exact ⟨show P20.expansion 2 18000 0 (svs [mkR (0), mkR (3600)]) = ([43, 48, 53, 47, 43, 48, 54], 0) by decide +kernel, show -9223372036854775808 ≤ (18000 : Int) ∧ (18000 : Int) ≤ 9223372036854775807 by decide, show -9223372036854775808 ≤ (0 : Int) ∧ (0 : Int) ≤ 9223372036854775807 by decide, show [mkR (0), mkR (3600)].length ≤ 3 by decide, show SvOk [mkR (0), mkR (3600)] by unfold SvOk; decide⟩
  · exact ⟨show P20.expansion 2 18000 0 (svs [mkR (0)]) = ([43, 48, 53], 0) by decide +kernel, show -9223372036854775808 ≤ (18000 : Int) ∧ (18000 : Int) ≤ 9223372036854775807 by decide, show -9223372036854775808 ≤ (0 : Int) ∧ (0 : Int) ≤ 9223372036854775807 by decide, show [mkR (0)].length ≤ 3 by decide, show SvOk [mkR (0)] by unfold SvOk; decide⟩
  · exact ⟨show P20.expansion 2 18000 0 (svs [mkR (0), mkR (-3600)]) = ([43, 48, 53, 47, 43, 48, 52], 0) by decide +kernel, show -9223372036854775808 ≤ (18000 : Int) ∧ (18000 : Int) ≤ 9223372036854775807 by decide, show -9223372036854775808 ≤ (0 : Int) ∧ (0 : Int) ≤ 9223372036854775807 by decide, show [mkR (0), mkR (-3600)].length ≤ 3 by decide, show SvOk [mkR (0), mkR (-3600)] by unfold SvOk; decide⟩
  · exact ⟨show P20.expansion 2 18000 0 (svs [mkR (0), mkR (3600), mkR (7200)]) = ([], 14) by decide +kernel, show -9223372036854775808 ≤ (18000 : Int) ∧ (18000 : Int) ≤ 9223372036854775807 by decide, show -9223372036854775808 ≤ (0 : Int) ∧ (0 : Int) ≤ 9223372036854775807 by decide, show [mkR (0), mkR (3600), mkR (7200)].length ≤ 3 by decide, show SvOk [mkR (0), mkR (3600), mkR (7200)] by unfold SvOk; decide⟩
  · exact ⟨show P20.expansion 2 84600 0 (svs [mkR (0), mkR (3600)]) = ([], 3) by decide +kernel, show -9223372036854775808 ≤ (84600 : Int) ∧ (84600 : Int) ≤ 9223372036854775807 by decide, show -9223372036854775808 ≤ (0 : Int) ∧ (0 : Int) ≤ 9223372036854775807 by decide, show [mkR (0), mkR (3600)].length ≤ 3 by decide, show SvOk [mkR (0), mkR (3600)] by unfold SvOk; decide⟩
  · exact ⟨show P20.expansion 3 0 0 (svs ([] : List RV)) = ([], 2) by decide +kernel, show -9223372036854775808 ≤ (0 : Int) ∧ (0 : Int) ≤ 9223372036854775807 by decide, show -9223372036854775808 ≤ (0 : Int) ∧ (0 : Int) ≤ 9223372036854775807 by decide, show ([] : List RV).length ≤ 3 by decide, show SvOk ([] : List RV) by unfold SvOk; decide⟩
end Go.Proofs.YtmgmgdjddimgmaaDoor
