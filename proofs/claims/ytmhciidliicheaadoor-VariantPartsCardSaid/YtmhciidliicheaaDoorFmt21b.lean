/- The walks of what stands around %s, and around a slash (chapter 21). -/
import Derived.Test.YtmhciidliicheaaDoorFmt21a
namespace Go.Proofs.YtmhciidliicheaaDoor
open Go.RowKit Go.Lib
set_option linter.unusedVariables false

theorem cut_len (l sep : List UInt8) : (Lib.cut l sep).1.length + (Lib.cut l sep).2.1.length ≤ l.length := by
  rcases P21.cut_cases l sep with ⟨q, _⟩ | ⟨i, hi, _, _, q⟩
  · rw [q]; simp
  · rw [q]; simp only [List.length_take, List.length_drop]; omega
theorem cat_run {P : Program} (a b : List UInt8) (h : a.length + b.length ≤ 2000000) : ∀ W, (Op.stringOp .add (str a) (str b)).run P W = .ok (.string (str (a ++ b))) W := fun W => by
  rw [run_string_add_sum (w := W) _ _ (by rw [str_size, str_size]; omega), str_append]
set_option maxRecDepth 100000 in
set_option maxHeartbeats 4000000 in
theorem around_any (s : ByteArray) (w : World) (hs : s.size ≤ 1000000) (hv : Vars21 w) :
    Calls Tryd.prog 50 #[.string s] w fun e w' => e = .returned (.tuple #[.string (str (P21.pct (P4.bl s)).1), .string (str (P21.pct (P4.bl s)).2.1), .bool (P21.letter (P4.bl s))]) ∧ Below w.heap.size w w' := by
  have c1 := cut21 s [37, 115] w hs hv
  have hl := cut_len (P4.bl s) [37, 115]
  rw [P4.bl_len] at hl
  have hLt : P21.letter (P4.bl s) = ((Lib.cut (P4.bl s) [37, 115]).2.2 && (((Lib.cut (P4.bl s) [37, 115]).1 ++ (Lib.cut (P4.bl s) [37, 115]).2.1).all P21.isL && decide (((Lib.cut (P4.bl s) [37, 115]).1 ++ (Lib.cut (P4.bl s) [37, 115]).2.1).length ≤ 5))) := rfl
  have hP : P21.pct (P4.bl s) = Lib.cut (P4.bl s) [37, 115] := rfl
  rw [hLt, hP]
  generalize Lib.cut (P4.bl s) [37, 115] = T at c1 hl ⊢
  obtain ⟨a, b, f⟩ := T
  simp only at c1 hl ⊢
  have hcat := cat_run (P := Tryd.prog) a b (by omega)
  have c2 := fun W => idxf_any (str (a ++ b)) W
  have hidx := P21.idx_lt (str (a ++ b))
  rw [str_data] at hidx
  have hsz : (str (a ++ b)).size = (a ++ b).length := str_size _
  generalize (a ++ b).all P21.isL = L at hidx ⊢
  generalize (a ++ b).length = n at hsz ⊢
  generalize Lib.idxFunc (fun r => !P21.isLr r) true (str (a ++ b)) = I at c2 hidx
  generalize str (a ++ b) = AB at hcat c2 hsz
  generalize str a = SA at c1 hcat ⊢
  generalize str b = SB at c1 hcat ⊢
  clear hl hP hLt
  have C1 := Lib.hid c1
  have C2 := Lib.hid c2
  clear c1 c2 hv
  have h5 : (AB.size : Int) ≤ 5 ↔ n ≤ 5 := by omega
  clear hs
  have hI : (I < 0 ∧ L = true) ∨ (¬ I < 0 ∧ L = false) := by
    by_cases q : I < 0
    · rw [decide_eq_true q] at hidx; exact .inl ⟨q, hidx.symm⟩
    · rw [decide_eq_false q] at hidx; exact .inr ⟨q, hidx.symm⟩
  clear hidx
  cases f with
  | false =>
    rcases hI with ⟨q, rfl⟩ | ⟨q, rfl⟩
    all_goals
      go_enter Tryd.func50, Tryd.ntmps50
      go_wp2_with (first | (go_at_call 53; refine C1.out.mono ?_; rintro e w1 ⟨rfl, n1, rfl⟩) | (go_at_call 83; refine (C2.out _).mono ?_; rintro e w2 ⟨rfl, hb2⟩))
      go_ret3
      exact ⟨rfl, (below_drewN (Below.refl w.heap.size w) n1).trans (show Below w.heap.size (w.drewN n1) w2 from hb2)⟩
  | true =>
    rcases hI with ⟨q, rfl⟩ | ⟨q, rfl⟩
    · by_cases hn : n ≤ 5
      all_goals
        go_enter Tryd.func50, Tryd.ntmps50
        go_wp2_with (first | (go_at_call 53; refine C1.out.mono ?_; rintro e w1 ⟨rfl, n1, rfl⟩) | (go_at_call 83; refine (C2.out _).mono ?_; rintro e w2 ⟨rfl, hb2⟩))
        go_ret3
        exact ⟨by first | (simp [hn]; done) | (simp [hn]; omega), (below_drewN (Below.refl w.heap.size w) n1).trans (show Below w.heap.size (w.drewN n1) w2 from hb2)⟩
    · go_enter Tryd.func50, Tryd.ntmps50
      go_wp2_with (first | (go_at_call 53; refine C1.out.mono ?_; rintro e w1 ⟨rfl, n1, rfl⟩) | (go_at_call 83; refine (C2.out _).mono ?_; rintro e w2 ⟨rfl, hb2⟩))
      go_ret3
      exact ⟨rfl, (below_drewN (Below.refl w.heap.size w) n1).trans (show Below w.heap.size (w.drewN n1) w2 from hb2)⟩

/-- the reference's cut at a slash -/
def slashR (l : List UInt8) : List UInt8 × List UInt8 × Bool := if (P21.slash l).2.2 = true then P21.slash l else ([], [], false)
theorem str_take (s : ByteArray) (k : Nat) : s.extract 0 k = str ((P4.bl s).take k) := by
  apply ByteArray.ext
  apply Array.toList_inj.mp
  show P4.bl (s.extract 0 k) = _
  rw [P20.bl_extract]; rfl
theorem str_drop (s : ByteArray) (k : Nat) : s.extract k s.size = str ((P4.bl s).drop k) := by
  apply ByteArray.ext
  apply Array.toList_inj.mp
  show P4.bl (s.extract k s.size) = _
  rw [P20.bl_extract, List.take_of_length_le (by rw [P4.bl_len]; exact Nat.le_refl _)]; rfl
end Go.Proofs.YtmhciidliicheaaDoor
