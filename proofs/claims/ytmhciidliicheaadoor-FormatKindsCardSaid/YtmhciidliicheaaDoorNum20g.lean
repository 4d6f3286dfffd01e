/- The walk of numeric.joined (chapter 20). -/
import Derived.Test.YtmhciidliicheaaDoorNum20f
import Derived.Test.YtmhciidliicheaaDoorRules
import Derived.ArgAppend
namespace Go.Proofs.YtmhciidliicheaaDoor
open Go.RowKit
set_option linter.unusedVariables false

/-- the numbers of offsets, with a slash between two of them, or the error -/
def P20.jFrom (off : Int) (acc : List (List UInt8)) : List Int → List UInt8 × Int
  | [] => (Lib.join acc [47], 0)
  | x :: l => if P20.text (off + x) = [] then ([], 3) else P20.jFrom off (acc ++ [P20.text (off + x)]) l
theorem jFrom_one (off x : Int) : P20.jFrom off [] [x] = P20.one (P20.text (off + x)) := by
  rw [P20.jFrom, P20.jFrom, P20.one]
  by_cases h : P20.text (off + x) = []
  · rw [if_pos h, if_pos h]
  · rw [if_neg h, if_neg h]; simp [Lib.join]
theorem jFrom_two (off x y : Int) : P20.jFrom off [] [x, y] = P20.both (P20.text (off + x)) (P20.text (off + y)) := by
  rw [P20.jFrom, P20.jFrom, P20.jFrom, P20.both]
  by_cases h : P20.text (off + x) = []
  · rw [if_pos h, if_pos (.inl h)]
  · rw [if_neg h]
    by_cases h' : P20.text (off + y) = []
    · rw [if_pos h', if_pos (.inr h')]
    · rw [if_neg h', if_neg (by simp [h, h'])]; simp [Lib.join]
theorem jFrom_step {off : Int} {acc : List (List UInt8)} {L : List Int} {k : Nat} {x : Int} (h : L[k]? = some x) (ht : P20.text (off + x) ≠ []) : P20.jFrom off acc (L.drop k) = P20.jFrom off (acc ++ [P20.text (off + x)]) (L.drop (k + 1)) := by
  have hk := (List.getElem?_eq_some_iff.mp h).1
  rw [List.drop_eq_getElem_cons hk, (List.getElem?_eq_some_iff.mp h).2, P20.jFrom, if_neg ht]
theorem jFrom_bad {off : Int} {acc : List (List UInt8)} {L : List Int} {k : Nat} {x : Int} (h : L[k]? = some x) (ht : P20.text (off + x) = []) : P20.jFrom off acc (L.drop k) = ([], 3) := by
  have hk := (List.getElem?_eq_some_iff.mp h).1
  rw [List.drop_eq_getElem_cons hk, (List.getElem?_eq_some_iff.mp h).2, P20.jFrom, if_pos ht]
theorem text_le (x : Int) : (P20.text x).length ≤ 7 := by have := P20.text_len x; omega
theorem join_len (acc : List (List UInt8)) (h2 : acc.length ≤ 2) (h7 : ∀ t ∈ acc, t.length ≤ 7) : (Lib.join acc [47]).length ≤ 15 := by
  match acc, h2 with
  | [], _ => simp [Lib.join]
  | [a], _ => have := h7 a (by simp); simp [Lib.join]; omega
  | [a, b], _ => have := h7 a (by simp); have := h7 b (by simp); simp [Lib.join]; omega
def svals (acc : List (List UInt8)) : List Value := acc.map fun t => .string (str t)
theorem svals_snoc (acc : List (List UInt8)) (t : List UInt8) : svals (acc ++ [t]) = svals acc ++ [.string (str t)] := List.map_append
theorem infoStr : (Tryd.prog.info? 9).map (fun i => (i.zero, i.size, i.bytes)) = some (some (.string ⟨#[]⟩), 1, 16) := by kernel_rfl
theorem join_any (acc : List (List UInt8)) (B cap : Nat) (W : World) (h2 : acc.length ≤ 2) (h7 : ∀ t ∈ acc, t.length ≤ 7) (hB : B < W.heap.size) (hcap : acc.length ≤ cap) (hc : ∀ k u, (svals acc)[k]? = some u → W.cell? ⟨B, k, none⟩ = some u) :
    Calls Tryd.prog 98 #[.slice (some ⟨B, 0, none⟩) acc.length cap, .string ⟨#[47]⟩] W fun e w' => e = .returned (.string (str (Lib.join acc [47]))) ∧ Below W.heap.size W w' := by
  have hm : (acc.map str).map (fun x => x.data.toList) = acc := by rw [List.map_map]; exact List.map_id _
  have hjl := join_len acc h2 h7
  have q := Tryd.strings_Join B 0 cap (acc.map str) ⟨#[47]⟩ W (fun j x hx => by
    rw [Nat.zero_add]
    rw [List.getElem?_map] at hx
    cases ha : acc[j]? with
    | none => rw [ha] at hx; cases hx
    | some t =>
      rw [ha] at hx
      injection hx with hx
      rw [← hx]
      exact hc j _ (by unfold svals; rw [List.getElem?_map, ha]; rfl)) hB (by rw [List.length_map]; omega) (by rw [List.length_map]; exact hcap) (by rw [hm]; exact Nat.le_trans hjl (by decide))
  rw [hm, List.length_map] at q
  exact q
theorem sum_over_all (a b : Int) (a0 : -9223372036854775808 ≤ a) (a1 : a ≤ 9223372036854775807) (b0 : -9223372036854775808 ≤ b) (b1 : b ≤ 9223372036854775807) (h : a + b < -9223372036854775808 ∨ 9223372036854775807 < a + b) :
    ∃ C : Int, -9223372036854775808 ≤ C ∧ C ≤ 9223372036854775807 ∧ Hid (∀ W, Calls Tryd.prog 97 #[.int .i64 a, .int .i64 b] W fun e w' => e = .returned (.tuple #[.int .i64 C, .bool false]) ∧ W = w') := by
  by_cases h' : a + b < -9223372036854775808
  · refine ⟨a + b + 18446744073709551616, by omega, by omega, fun W => ?_⟩
    exact sum_lo a b W a0 a1 b0 b1 h'
  · refine ⟨a + b - 18446744073709551616, by omega, by omega, fun W => ?_⟩
    exact sum_hi a b W a0 a1 b0 b1 (by omega)
/-- integers in a block -/
def IntsIn (w : World) (B : Nat) (L : List Int) : Prop := B < w.heap.size ∧ ∀ k x, L[k]? = some x → w.cell? ⟨B, k, none⟩ = some (.int .i64 x)
theorem IntsIn.below {w w' : World} {B : Nat} {L : List Int} (h : IntsIn w B L) (hb : Below w.heap.size w w') : IntsIn w' B L :=
  ⟨Nat.lt_of_lt_of_le h.1 hb.size, fun k x hx => (hb.cell (p := ⟨B, k, none⟩) h.1).trans (h.2 k x hx)⟩
theorem IntsIn.alloc {w : World} {B : Nat} {L : List Int} (h : IntsIn w B L) (ob : Obj) : IntsIn (w.alloc ob) B L := h.below ((Below.refl _ _).alloc (Nat.le_refl _) ob)
theorem IntsIn.grown {w w' : World} {base B n size : Nat} {e : TypeId} {v : Value} {xs : List Value} {L : List Int} (h : IntsIn w B L) (ho : w.ownsRow base e size v n xs) (hg : w.grownBy w' v.ownBlock) (hlt : B < base) : IntsIn w' B L :=
  ⟨Nat.lt_of_lt_of_le h.1 hg.size, fun k x hx => by
    rw [← h.2 k x hx]
    exact World.cell?_of_block (hg.block B h.1 fun q => by have := (ho.lt B q.symm).1; omega)⟩

set_option maxRecDepth 100000 in
set_option maxHeartbeats 8000000 in
theorem joined_any (off : Int) (B c : Nat) (L : List Int) (w : World) (o0 : -9223372036854775808 ≤ off) (o1 : off ≤ 9223372036854775807) (hL0 : 0 < L.length) (hL2 : L.length ≤ 2) (hb64 : ∀ x ∈ L, -9223372036854775808 ≤ x ∧ x ≤ 9223372036854775807) (hI : IntsIn w B L) :
    Calls Tryd.prog 64 #[.int .i64 off, .slice (some ⟨B, 0, none⟩) L.length c] w fun e w' => e = .returned (.tuple #[.string (str (P20.jFrom off [] L).1), .int .i64 (P20.jFrom off [] L).2]) ∧ Below w.heap.size w w' := by
  obtain ⟨R, hRR⟩ : ∃ R, R = P20.jFrom off [] L := ⟨_, rfl⟩
  rw [← hRR]
  have HR : Hid (P20.jFrom off [] (L.drop 0) = R) := Lib.hid hRR.symm
  clear hRR
  have hli : (L.length : Int) ≤ 2 := by omega
  have hlp : (0 : Int) < (L.length : Int) := by omega
  have HB64 := Lib.hid hb64
  have HBlt := Lib.hid hI.1
  have hO : w.ownsRow w.heap.size 9 1 (.slice none 0 0) ([] : List (List UInt8)).length (svals []) := ⟨rfl, .inl ⟨rfl, rfl⟩⟩
  clear hb64
  go_enter Tryd.func64, Tryd.ntmps64
  go_wp2_with fail
  go_loopw [6, 14] (fun v i wr => ∃ (k : Nat) (acc : List (List UInt8)), k ≤ L.length ∧ acc.length = k ∧ i = .int .i64 k ∧ wr.ownsRow w.heap.size 9 1 v acc.length (svals acc) ∧ Hid (∀ t ∈ acc, t.length ≤ 7) ∧ Hid (P20.jFrom off acc (L.drop k) = R) ∧ IntsIn wr B L ∧ Below w.heap.size w wr) (fun _ i _ => L.length - (intOf i).toNat)
  case atStart => exact ⟨0, [], Nat.zero_le _, rfl, rfl, hO, fun t ht => by simp at ht, HR, hI, Below.refl _ _⟩
  case round =>
    clear HR hO hI
    obtain ⟨k, acc, hk, hak, rfl, hO, H7, HR, hI, hb⟩ := hrel
    have HAK := Lib.hid hak
    clear hak
    by_cases hlt : k < L.length
    · obtain ⟨x, hx⟩ : ∃ x, L[k]? = some x := ⟨_, List.getElem?_eq_getElem hlt⟩
      have c0 := hI.2 k x hx
      obtain ⟨x0, x1⟩ := HB64.out x (List.mem_of_getElem? hx)
      have hki : (k : Int) < (L.length : Int) := by omega
      by_cases hf : -9223372036854775808 ≤ off + x ∧ off + x ≤ 9223372036854775807
      · obtain ⟨f0, f1⟩ := hf
        have cS : Hid (∀ W, Calls Tryd.prog 97 #[.int .i64 off, .int .i64 x] W fun e w' => e = .returned (.tuple #[.int .i64 (off + x), .bool true]) ∧ W = w') := fun W => sum_fit off x W o0 o1 x0 x1 f0 f1
        have cT : Hid (∀ W, Calls Tryd.prog 40 #[.int .i64 (off + x)] W fun e w' => e = .returned (.string (str (P20.text (off + x)))) ∧ Below W.heap.size W w') := fun W => ntext_any (off + x) W f0 f1
        have hst := fun q => jFrom_step (off := off) (acc := acc) hx q
        have hbd := fun q => jFrom_bad (off := off) (acc := acc) hx q
        have ht7 := text_le (off + x)
        generalize P20.text (off + x) = T at cT hst hbd ht7
        generalize off + x = Y at cS cT f0 f1
        by_cases hT : T = []
        · have HG := Lib.hid (HR.out.symm.trans (hbd hT))
          subst hT
          clear hst hbd hx HR hO
          go_wp2_with fail
          refine (cS.out _).mono ?_
          rintro e w1 ⟨rfl, rfl⟩
          go_wp2_with fail
          refine (cT.out _).mono ?_
          rintro e w2 ⟨rfl, hc2⟩
          have hb2 := hb.trans (hc2.mono hb.size)
          have n1 : (str []).toList = [] := by rw [ByteArray.toList_eq]; rfl
          clear hb hc2
          go_wp2_with fail
          go_ret2
          exact ⟨by rw [HG.out]; rfl, hb2⟩
        · have HG := Lib.hid ((hst hT).symm.trans HR.out)
          have hTl : 0 < T.length := List.length_pos_iff.2 hT
          obtain ⟨n1, n2⟩ := str_ne hTl
          have HAL := Lib.hid (show acc.length ≤ 1 by have := HAK.out; omega)
          have H72 : Hid (∀ t ∈ acc ++ [T], t.length ≤ 7) := fun t ht => by
            rw [List.mem_append] at ht
            rcases ht with ht | ht
            · exact H7.out t ht
            · rw [List.mem_singleton] at ht; rw [ht]; exact ht7
          have HSN := Lib.hid (svals_snoc acc T)
          have HSL := Lib.hid (show (acc ++ [T]).length = acc.length + 1 by simp)
          clear hst hbd hx HR hT
          go_wp2_with fail
          refine (cS.out _).mono ?_
          rintro e w1 ⟨rfl, rfl⟩
          go_wp2_with fail
          refine (cT.out _).mono ?_
          rintro e w2 ⟨rfl, hc2⟩
          have hb2 := hb.trans (hc2.mono hb.size)
          have hNB : Hid (Blk (w2.alloc (.cells #[.string (str T)] 9)) w2.heap.size 9 #[.string (str T)]) := Lib.hid (Blk.new _ _ _)
          have HO := Lib.hid ((own_below hO hc2).alloc (.cells #[.string (str T)] 9))
          have HI := Lib.hid ((hI.below hc2).alloc (.cells #[.string (str T)] 9))
          have HB := Lib.hid (hb2.alloc hb2.size (.cells #[.string (str T)] 9))
          obtain ⟨i0, hi, hz0, hz1, hz2⟩ := info_parts infoStr
          clear hb hc2 hO hI hb2 cS cT c0
          go_wp2_with (at_builtin; refine wpList_append_own _ rfl _ _ 54 rfl w.heap.size 9 i0 (.string ⟨#[]⟩) 1 16 Tryd.underlying54 hi hz0 hz1 hz2 rfl (by decide) _ _ _ rfl HO.out ⟨w2.heap.size, 0, none⟩ 1 1 [.string (str T)] rfl rfl (blk_cells hNB.out) (by simp [Value.oneCell']) (by have := HAL.out; simp only [maxLen]; omega) (by have := HAL.out; omega) HB.out.size ?_)
          intro v1 wa hown hgr hne
          have hb3 := own_grown HB.out HO.out hgr HB.out.size (Nat.le_refl _)
          have hI2 := HI.out.grown HO.out hgr HBlt.out
          rw [← HSN.out, ← HSL.out] at hown
          clear hgr hne HO HI HB hNB HSN
          go_wp2_with fail
          go_roundw
          case rel => exact ⟨k + 1, acc ++ [T], by omega, by rw [HSL.out, HAK.out], by go_num, hown, H72, HG, hI2, hb3⟩
          case measure => simp [intOf]; omega
      · have hT : P20.text (off + x) = [] := P20.text_out (by omega)
        have HG := Lib.hid (HR.out.symm.trans (jFrom_bad (off := off) (acc := acc) hx hT))
        obtain ⟨C, C0, C1, cS0⟩ : ∃ C : Int, -9223372036854775808 ≤ C ∧ C ≤ 9223372036854775807 ∧ Hid (∀ W, Calls Tryd.prog 97 #[.int .i64 off, .int .i64 x] W fun e w' => e = .returned (.tuple #[.int .i64 C, .bool false]) ∧ W = w') := sum_over_all off x o0 o1 x0 x1 (by omega)
        have cT : Hid (∀ W, Calls Tryd.prog 40 #[.int .i64 C] W fun e w' => e = .returned (.string (str (P20.text C))) ∧ Below W.heap.size W w') := fun W => ntext_any C W C0 C1
        generalize P20.text C = T at cT
        clear hx HR hO hT hf
        go_wp2_with fail
        refine (cS0.out _).mono ?_
        rintro e w1 ⟨rfl, rfl⟩
        go_wp2_with fail
        refine (cT.out _).mono ?_
        rintro e w2 ⟨rfl, hc2⟩
        have hb2 := hb.trans (hc2.mono hb.size)
        clear hb hc2
        go_wp2_with fail
        go_ret2
        exact ⟨by rw [HG.out]; rfl, hb2⟩
    · obtain rfl : k = L.length := by omega
      have hki : ¬ (L.length : Int) < (L.length : Int) := by omega
      obtain ⟨B2, cap, rfl, hB0, hB1, hcap, hcs⟩ := own_form hO (by have := HAK.out; omega)
      have HG : Hid (R = (Lib.join acc [47], 0)) := by
        have q := HR.out
        rw [List.drop_length] at q
        exact Lib.hid q.symm
      have cJ : Hid (Calls Tryd.prog 98 #[.slice (some ⟨B2, 0, none⟩) acc.length cap, .string ⟨#[47]⟩] wr fun e w' => e = .returned (.string (str (Lib.join acc [47]))) ∧ Below wr.heap.size wr w') := Lib.hid (join_any acc B2 cap wr (by have := HAK.out; omega) H7.out hB1 hcap hcs)
      clear hO hI hcs HR
      go_wp2_with fail
      refine cJ.out.mono ?_
      rintro e w2 ⟨rfl, hc2⟩
      have hb2 := hb.trans (hc2.mono hb.size)
      clear hb hc2
      go_wp2_with fail
      go_ret2
      exact ⟨by rw [HG.out]; rfl, hb2⟩
end Go.Proofs.YtmhciidliicheaaDoor
