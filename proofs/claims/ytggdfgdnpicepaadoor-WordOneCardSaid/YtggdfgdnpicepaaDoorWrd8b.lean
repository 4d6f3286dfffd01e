/- The walk of word.beginning: the iterator over the words that begin so (chapter 8). -/
import Derived.RangeFuncNested
import Derived.RangeFuncBound
import Derived.RangeFuncCalls
import Derived.RangeFuncLeaves
import Derived.RangeFuncBox
import Derived.RangeFuncWrites
import Derived.Shelf.Abstract
import Derived.Shelf.RegionOpen
import Derived.OwnWalkIn
import Derived.TacticsInMore
import Derived.LoopNIn
import Derived.LoopIn
import Derived.Test.YtggdfgdnpicepaaDoorShelf
import Derived.Test.YtggdfgdnpicepaaDoorWrd8a
namespace Go.Proofs.YtggdfgdnpicepaaDoor
open Go.RowKit Go.Shelf Go.Proofs
set_option linter.unusedVariables false
set_option linter.unusedSimpArgs false
attribute [local go_sem] Oper.semAt_some

/-- these blocks of cells stay -/
def KeepsC (rs : List Nat) (A B : World) : Prop := ∀ r ∈ rs, ∀ cs t fz, A.heap[r]? = some (.cells cs t fz) → B.heap[r]? = some (.cells cs t fz)
theorem KeepsC.refl (rs : List Nat) (A : World) : KeepsC rs A A := fun _ _ _ _ _ h => h
theorem KeepsC.trans {rs : List Nat} {A B C : World} (h : KeepsC rs A B) (k : KeepsC rs B C) : KeepsC rs A C := fun r hr cs t fz q => k r hr cs t fz (h r hr cs t fz q)
theorem KeepsC.cs {rs : List Nat} {A B : World} {g : Nat} {xs : List Value} (h : KeepsC rs A B) (hg : g ∈ rs) (hc : Cs A g xs) : Cs B g xs := by
  obtain ⟨cur, t, fz, h1, h2⟩ := hc
  exact ⟨cur, t, fz, h g hg _ _ _ h1, h2⟩
theorem KeepsC.rd {rs : List Nat} {A B : World} {g : Nat} {xs : List Value} (h : KeepsC rs A B) (hg : g ∈ rs) (hc : Rd A g xs) : Rd B g xs := by
  obtain ⟨cur, t, fz, h1, h2⟩ := hc
  exact ⟨cur, t, fz, h g hg _ _ _ h1, h2⟩
theorem KeepsC.putObj (rs : List Nat) (W : World) (l : Nat) (o o' : Obj) (hl : W.heap[l]? = some o) (ho : o.isCells = false) : KeepsC rs W (W.putObj l o') := by
  intro r _ cs t fz q
  by_cases e : r = l
  · subst e
    rw [hl] at q
    injection q with q
    subst q
    cases ho
  · exact (World.putObj_heap_other e).trans q
/-- the words as cells -/
def wcells (L : List (List UInt8)) : List Value := L.map fun w => .string (str w)
theorem wcells_get (L : List (List UInt8)) (k : Nat) (h : k < L.length) : (wcells L)[k]? = some (.string (str (P8.word L k))) := by
  unfold wcells P8.word
  rw [List.getElem?_map, List.getElem?_eq_getElem h]
  rfl

theorem str_list (l : List UInt8) : (str l).toList = l := by rw [ByteArray.toList_eq]; rfl
theorem begins_nil (w : List UInt8) : P8.begins [] w = false := rfl
theorem begins_has {s w : List UInt8} (h : s ≠ []) : Lib.hasPrefix (str w).data.toList (str s).data.toList = P8.begins s w := by
  unfold Lib.hasPrefix P8.begins
  cases s with
  | nil => exact absurd rfl h
  | cons a s => rfl

set_option maxRecDepth 100000 in
set_option maxHeartbeats 4000000 in
theorem beg1_in (n : Nat) (hn : 1 ≤ n) (l Bl Bs g c : Nat) (L : List (List UInt8)) (s : List UInt8) (hlen : L.length ≤ 1000) (J Jx : List Nat → World → Prop)
    (hY : ∀ pre (x : Nat) W, J pre W → pre.length < L.length → YieldAt Fence.wide (n - 1) Tryd.prog l #[.int .i64 (x : Int), .string (str (P8.word L x))] W fun e W' =>
      (e = .returned (.bool true) ∧ J (pre ++ [x]) W' ∧ KeepsC [g, Bl, Bs] W W') ∨ (e = .returned (.bool false) ∧ Jx (pre ++ [x]) W'))
    (W : World) (hBl : Cs W Bl [.slice (some ⟨g, 0, none⟩) L.length c]) (hBs : Cs W Bs [.string (str s)]) (hL : Rd W g (wcells L)) (h0 : J [] W) :
    CallsIn Fence.wide n Tryd.prog 94 #[.func (.yield l) #[] #[], .pointer (some ⟨Bl, 0, none⟩), .pointer (some ⟨Bs, 0, none⟩)] W fun e W' => (∃ v, e = .returned v) ∧
      ((∃ ys, ys = P8.hits s L L.length ∧ J ys W') ∨ (∃ pre, (∃ k, k < L.length ∧ P8.begins s (P8.word L k) = true ∧ pre = P8.hits s L k ++ [k]) ∧ Jx pre W')) := by
  have cl := hBl.cell 0 _ rfl
  refine callsIn_of_wp Tryd.func94 rfl trivial ?_ rfl
  simp only [Tryd.ntmps94, List.size_toArray, List.length_cons, List.length_nil, Nat.reduceAdd, Nat.reduceSub, Array.replicate_succ, Array.replicate_zero, List.push_toArray, List.append_toArray, List.nil_append, List.cons_append]
  gi_wp2
  gi_loopw [8] (fun i wr => ∃ k : Nat, k ≤ L.length ∧ i = .int .i64 k ∧ J (P8.hits s L k) wr ∧ KeepsC [g, Bl, Bs] W wr)
    (fun i _ => L.length - (intOf i).toNat)
  case atStart => exact ⟨0, Nat.zero_le _, rfl, by rw [P8.hits_zero]; exact h0, KeepsC.refl _ _⟩
  case round =>
    obtain ⟨k, hk, rfl, hJs, hnx⟩ := hrel
    have cb := (hnx.cs (by simp) hBs).cell 0 _ rfl
    by_cases hlt : k < L.length
    · have cg := (hnx.rd (by simp) hL).cell k _ (wcells_get L k hlt)
      have hki : (k : Int) < (L.length : Int) := by omega
      by_cases hs : s = []
      · have he : (str s).toList.isEmpty = true := by rw [str_list, hs]; rfl
        have hH := Lib.hid (P8.hits_no (L := L) (k := k) (s := s) (by rw [hs]; exact begins_nil _))
        clear hs
        gi_wp2
        refine ⟨trivial, ?_⟩
        gi_wp2
        refine ⟨fun _ _ => trivial, ?_⟩
        gi_wp2
        go_roundw
        case rel => exact ⟨k + 1, by omega, by simp, by rw [hH.out]; exact hJs, hnx⟩
        case measure => simp [intOf]; omega
      · have he : (str s).toList.isEmpty = false := by rw [str_list]; cases s with | nil => exact absurd rfl hs | cons a s => rfl
        have hhp := begins_has (w := P8.word L k) hs
        clear hs
        cases hbg : P8.begins s (P8.word L k) with
        | true =>
          have hH := Lib.hid (P8.hits_yes hbg)
          have hB := Lib.hid hbg
          rw [hbg] at hhp
          clear hbg
          obtain ⟨fn, tmps, assign, body, hy, hR⟩ := hY _ k wr hJs (by have := P8.hits_len s L k; omega)
          gi_wp2_with (refine ⟨trivial, ?_⟩; gi_at_call 95; refine (callsIn_wide.2 (Tryd.strings_HasPrefix _ _ _)).mono ?_; rintro e w' ⟨rfl, rfl⟩)
          refine hR.mono ?_
          rintro e W3 (⟨rfl, hJ3, hk3⟩ | ⟨rfl, hJx3⟩)
          · gi_wp2
            go_roundw
            case rel => exact ⟨k + 1, by omega, by simp, by rw [hH.out]; exact hJ3, hnx.trans hk3⟩
            case measure => simp [intOf]; omega
          · gi_wp2
            refine bodyPost_ret (results_none rfl _ _ _) rfl ?_
            exact ⟨⟨_, rfl⟩, .inr ⟨_, ⟨k, hlt, hB.out, rfl⟩, hJx3⟩⟩
        | false =>
          have hH := Lib.hid (P8.hits_no hbg)
          rw [hbg] at hhp
          clear hbg
          gi_wp2_with (refine ⟨trivial, ?_⟩; gi_at_call 95; refine (callsIn_wide.2 (Tryd.strings_HasPrefix _ _ _)).mono ?_; rintro e w' ⟨rfl, rfl⟩)
          refine ⟨fun _ _ => trivial, ?_⟩
          gi_wp2
          go_roundw
          case rel => exact ⟨k + 1, by omega, by simp, by rw [hH.out]; exact hJs, hnx⟩
          case measure => simp [intOf]; omega
    · obtain rfl : k = L.length := by omega
      gi_wp2
      go_end0
      exact ⟨⟨_, rfl⟩, .inl ⟨_, rfl, hJs⟩⟩
/-- what the loops over it lean on -/
theorem beg_stops (n : Nat) (hn : 1 ≤ n) (Bl Bs g c : Nat) (L : List (List UInt8)) (s : List UInt8) (hlen : L.length ≤ 1000) (w : World) (hBl : Cs w Bl [.slice (some ⟨g, 0, none⟩) L.length c]) (hBs : Cs w Bs [.string (str s)]) (hL : Rd w g (wcells L)) :
    SeqStopsK Fence.wide n Tryd.prog 94 #[.pointer (some ⟨Bl, 0, none⟩), .pointer (some ⟨Bs, 0, none⟩)] (fun x : Nat => #[Value.int .i64 (x : Int), .string (str (P8.word L x))]) (KeepsC [g, Bl, Bs])
      (fun ys => ys = P8.hits s L L.length) (fun pre => ∃ k, k < L.length ∧ P8.begins s (P8.word L k) = true ∧ pre = P8.hits s L k ++ [k]) L.length w := fun l J Jx W hW _ _ hY h0 =>
  beg1_in n hn l Bl Bs g c L s hlen J Jx hY W (hBl.belowS hW) (hBs.belowS hW) (hL.belowS hW) h0
set_option maxRecDepth 100000 in
set_option maxHeartbeats 4000000 in
theorem beginning_any (L : Value) (s : ByteArray) (hL : ∃ a n c, L = .slice a n c) (w : World) :
    Calls Tryd.prog 84 #[L, .string s] w fun e w' => e = .returned (.func (.func 94) #[] #[.pointer (some ⟨w.heap.size, 0, none⟩), .pointer (some ⟨w.heap.size + 1, 0, none⟩)]) ∧
      w' = (w.alloc (.cells #[L] 25)).alloc (.cells #[.string s] 9) := by
  obtain ⟨a, n, c, rfl⟩ := hL
  go_enter Tryd.func84, Tryd.ntmps84
  go_wp2_with fail
  go_ret
  exact ⟨rfl, rfl⟩
end Go.Proofs.YtggdfgdnpicepaaDoor
