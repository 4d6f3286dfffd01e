/- The walk of word.find (chapter 8). -/
import Derived.Test.YtggdfgdnpicepaaDoorWrd8b
namespace Go.Proofs.YtggdfgdnpicepaaDoor
open Go.RowKit Go.Shelf Go.Proofs
set_option linter.unusedVariables false
set_option linter.unusedSimpArgs false
attribute [local go_sem] Oper.semAt_some

theorem KeepsC.setCell {rs : List Nat} {W : World} {p : Addr} (u : Value) (hp : ∀ r ∈ rs, r ≠ p.block) : KeepsC rs W (W.setCell p u) := fun r hr cs t fz h => (Below.heap_setCell W p u r (hp r hr)).trans h
theorem KeepsC.drew (rs : List Nat) (W : World) : KeepsC rs W W.drew := fun _ _ _ _ _ h => h
theorem blk_drew {W : World} {g : Nat} {t : TypeId} {cs : Array Value} (h : Blk W g t cs) : Blk W.drew g t cs := h
theorem body8 {W w : World} {B g m b x : Nat} {L : List (List UInt8)} {q : List UInt8} {pre : List Nat} (hsz : b + 1 + 1 < m) (hgb : g < b) (hne : ∀ j ∈ pre, P8.word L j ≠ q) (he : ¬ P8.word L x = q) (bx : Blk W b 9 #[.string (str q)]) (b0 : Blk W (b + 1) 3 #[.int .i64 0])
    (b1 : Blk W (b + 1 + 1) 4 #[.bool false]) (bf : Blk W m 3 #[.int .i64 (P8.last pre 0)]) (bn : Blk W (m + 1) 3 #[.int .i64 pre.length]) (hB : Below b w W) :
    KeepsFrom B W ((W.setCell ⟨m, 0, none⟩ (.int .i64 (x : Int))).setCell ⟨m + 1, 0, none⟩ (.int .i64 ((pre.length : Int) + 1))).drew ∧ KeepsC [g, m + 1 + 1, m + 1 + 1 + 1] W ((W.setCell ⟨m, 0, none⟩ (.int .i64 (x : Int))).setCell ⟨m + 1, 0, none⟩ (.int .i64 ((pre.length : Int) + 1))).drew ∧
    (∀ j ∈ pre ++ [x], P8.word L j ≠ q) ∧ Blk ((W.setCell ⟨m, 0, none⟩ (.int .i64 (x : Int))).setCell ⟨m + 1, 0, none⟩ (.int .i64 ((pre.length : Int) + 1))).drew b 9 #[.string (str q)] ∧
    Blk ((W.setCell ⟨m, 0, none⟩ (.int .i64 (x : Int))).setCell ⟨m + 1, 0, none⟩ (.int .i64 ((pre.length : Int) + 1))).drew (b + 1) 3 #[.int .i64 0] ∧
    Blk ((W.setCell ⟨m, 0, none⟩ (.int .i64 (x : Int))).setCell ⟨m + 1, 0, none⟩ (.int .i64 ((pre.length : Int) + 1))).drew (b + 1 + 1) 4 #[.bool false] ∧
    Blk ((W.setCell ⟨m, 0, none⟩ (.int .i64 (x : Int))).setCell ⟨m + 1, 0, none⟩ (.int .i64 ((pre.length : Int) + 1))).drew m 3 #[.int .i64 (P8.last (pre ++ [x]) 0)] ∧
    Blk ((W.setCell ⟨m, 0, none⟩ (.int .i64 (x : Int))).setCell ⟨m + 1, 0, none⟩ (.int .i64 ((pre.length : Int) + 1))).drew (m + 1) 3 #[.int .i64 ((pre ++ [x]).length : Nat)] ∧ Below b w ((W.setCell ⟨m, 0, none⟩ (.int .i64 (x : Int))).setCell ⟨m + 1, 0, none⟩ (.int .i64 ((pre.length : Int) + 1))).drew := by
  refine ⟨(((KeepsOthers.setCell _ _ _).trans (KeepsOthers.setCell _ _ _)).trans (KeepsOthers.drew _)).from _, ((KeepsC.setCell _ (by simp; omega)).trans (KeepsC.setCell _ (by simp; omega))).trans (KeepsC.drew _ _), ?_, ?_, ?_, ?_, ?_, ?_, ?_⟩
  · intro j hj
    rcases List.mem_append.1 hj with h | h
    · exact hne j h
    · rw [List.mem_singleton.1 h]; exact he
  · exact blk_drew ((bx.far (p := ⟨m, 0, none⟩) (by simp; omega) _).far (p := ⟨m + 1, 0, none⟩) (by simp; omega) _)
  · exact blk_drew ((b0.far (p := ⟨m, 0, none⟩) (by simp; omega) _).far (p := ⟨m + 1, 0, none⟩) (by simp; omega) _)
  · exact blk_drew ((b1.far (p := ⟨m, 0, none⟩) (by simp; omega) _).far (p := ⟨m + 1, 0, none⟩) (by simp; omega) _)
  · rw [P8.last_snoc]; exact blk_drew ((bf.set_ 0 _).far (p := ⟨m + 1, 0, none⟩) (by simp) _)
  · rw [List.length_append]; exact blk_drew ((bn.far (p := ⟨m, 0, none⟩) (by simp) _).set_ 0 _)
  · exact ((hB.setCell (p := ⟨m, 0, none⟩) (by simp; omega) _).setCell (p := ⟨m + 1, 0, none⟩) (by simp; omega) _).drew
theorem blk_kept {W W' : World} {B : Nat} {row : Option Nat} {g : Nat} {t : TypeId} {cs : Array Value} (h : Blk W g t cs) (hg : W.grownBy W' row) (hr : ∀ r, row = some r → B ≤ r ∧ ∃ o : Obj, W.heap[r]? = some o ∧ o.isCells = false) : Blk W' g t cs := by
  refine (hg.block g h.lt fun e => ?_).trans h
  obtain ⟨_, o, h1, h2⟩ := hr g e.symm
  unfold Blk at h
  rw [h] at h1
  injection h1 with h1
  subst h1
  cases h2

set_option maxRecDepth 100000 in
set_option maxHeartbeats 4000000 in
theorem find_any (g c : Nat) (L : List (List UInt8)) (s : ByteArray) (w : World) (hL : Rd w g (wcells L)) (hlen : L.length ≤ 1000) (hs : s.size ≤ 1000000) :
    Calls Tryd.prog 74 #[.slice (some ⟨g, 0, none⟩) L.length c, .string s] w fun e w' => e = .returned (.tuple #[.int .i64 (P8.find (s.data.toList.map P8.low) L).1, .bool (P8.find (s.data.toList.map P8.low) L).2]) ∧ Below w.heap.size w w' := by
  obtain ⟨q, hq⟩ : ∃ q, s.data.toList.map P8.low = q := ⟨_, rfl⟩
  have hsm : ∀ W, Calls Tryd.prog 83 #[.string s] W fun e w' => e = .returned (.string (str q)) ∧ Below W.heap.size W w' := fun W => by rw [← hq]; exact small_any s W hs
  rw [hq]
  have HSM := Lib.hid hsm
  clear hq hsm
  refine (callsIn_wide (n := 6)).1 ?_
  refine callsIn_of_wp_marks Tryd.func74 rfl trivial ?_ rfl
  simp only [Tryd.ntmps74, List.size_toArray, List.length_cons, List.length_nil, Nat.reduceAdd, Nat.reduceSub, Array.replicate_succ, Array.replicate_zero, List.push_toArray, List.append_toArray, List.nil_append, List.cons_append]
  have HL := Lib.hid hL
  clear hL
  gi_wp2
  refine ⟨trivial, ?_⟩
  refine (callsIn_wide.2 (HSM.out _)).mono ?_
  rintro e w1 ⟨rfl, hb1⟩
  have bx : Blk w1 w.heap.size 9 #[.string s] := (((Blk.new w 9 #[.string s]).alloc _).alloc _).below hb1 (by simp; omega)
  have b0 : Blk w1 (w.heap.size + 1) 3 #[.int .i64 0] := ((Blk.newAt _ (w.heap.size + 1) (by simp) 3 #[.int .i64 0]).alloc _).below hb1 (by simp)
  have b1 : Blk w1 (w.heap.size + 1 + 1) 4 #[.bool false] := (Blk.newAt _ (w.heap.size + 1 + 1) (by simp) 4 #[.bool false]).below hb1 (by simp)
  have hbw : Below w.heap.size w w1 := ((((Below.refl w.heap.size w).alloc (Nat.le_refl _) _).alloc (by simp) _).alloc (by simp; omega) _).trans (hb1.mono (by simp; omega))
  have hsz : w.heap.size + 1 + 1 < w1.heap.size := b1.lt
  have cx := (bx.cell 0).trans rfl
  have fx := bx.frozen 0
  have bx2 := ((bx.set_ 0 (.string (str q))).alloc (.cells #[.int .i64 0] 3)).alloc (.cells #[.int .i64 0] 3)
  have cx2 := (bx2.cell 0).trans rfl
  have b02 := ((b0.far (p := ⟨w.heap.size, 0, none⟩) (by simp) (.string (str q))).alloc (.cells #[.int .i64 0] 3)).alloc (.cells #[.int .i64 0] 3)
  have b12 := ((b1.far (p := ⟨w.heap.size, 0, none⟩) (by simp; omega) (.string (str q))).alloc (.cells #[.int .i64 0] 3)).alloc (.cells #[.int .i64 0] 3)
  have bf2 := (Blk.newAt (w1.setCell ⟨w.heap.size, 0, none⟩ (.string (str q))) w1.heap.size (by simp) 3 #[.int .i64 0]).alloc (.cells #[.int .i64 0] 3)
  have bn2 := Blk.newAt ((w1.setCell ⟨w.heap.size, 0, none⟩ (.string (str q))).alloc (.cells #[.int .i64 0] 3)) (w1.heap.size + 1) (by simp) 3 #[.int .i64 0]
  have hb2 := ((hbw.setCell (p := ⟨w.heap.size, 0, none⟩) (Nat.le_refl _) (.string (str q))).alloc (by simp; omega) (.cells #[.int .i64 0] 3)).alloc (by simp; omega) (.cells #[.int .i64 0] 3)
  have hs2 : (((w1.setCell ⟨w.heap.size, 0, none⟩ (.string (str q))).alloc (.cells #[.int .i64 0] 3)).alloc (.cells #[.int .i64 0] 3)).heap.size = w1.heap.size + 1 + 1 := by simp
  have BX := Lib.hid bx2; have B0 := Lib.hid b02; have B1 := Lib.hid b12; have BF := Lib.hid bf2; have BN := Lib.hid bn2; have HB := Lib.hid hb2; have HS := Lib.hid hs2
  clear hb1 bx b0 b1 hbw bx2 b02 b12 bf2 bn2 hb2 hs2
  gi_wp2_with (refine ⟨trivial, ?_⟩; gi_at_call 84; refine (callsIn_wide.2 (beginning_any _ _ ⟨_, _, _, rfl⟩ _)).mono ?_; rintro e w5 ⟨rfl, rfl⟩)
  generalize (((w1.setCell ⟨w.heap.size, 0, none⟩ (.string (str q))).alloc (.cells #[.int .i64 0] 3)).alloc (.cells #[.int .i64 0] 3)) = W2 at *
  obtain ⟨b, hb⟩ : ∃ b, w.heap.size = b := ⟨_, rfl⟩
  obtain ⟨m, hm⟩ : ∃ m, w1.heap.size = m := ⟨_, rfl⟩
  rw [hm] at hsz BF BN HS ⊢
  have hgb : g < b := by rw [← hb]; exact HL.out.lt
  have HL2 := Lib.hid (HL.out.below HB.out HL.out.lt)
  rw [hb] at BX B0 B1 HB hsz ⊢
  clear cx fx HL hm
  have BL := Lib.hid ((Blk.newAt W2 (m + 1 + 1) HS.out 25 #[.slice (some ⟨g, 0, none⟩) L.length c]).alloc (.cells #[.string (str q)] 9))
  have BS := Lib.hid (Blk.newAt (W2.alloc (.cells #[.slice (some ⟨g, 0, none⟩) L.length c] 25)) (m + 1 + 1 + 1) (by simp [HS.out]) 9 #[.string (str q)])
  have HB3 := Lib.hid ((HB.out.alloc (by rw [HS.out]; omega) (.cells #[.slice (some ⟨g, 0, none⟩) L.length c] 25)).alloc (by simp [HS.out]; omega) (.cells #[.string (str q)] 9))
  have BX := Lib.hid ((BX.out.alloc (.cells #[.slice (some ⟨g, 0, none⟩) L.length c] 25)).alloc (.cells #[.string (str q)] 9))
  have B0 := Lib.hid ((B0.out.alloc (.cells #[.slice (some ⟨g, 0, none⟩) L.length c] 25)).alloc (.cells #[.string (str q)] 9))
  have B1 := Lib.hid ((B1.out.alloc (.cells #[.slice (some ⟨g, 0, none⟩) L.length c] 25)).alloc (.cells #[.string (str q)] 9))
  have BF := Lib.hid ((BF.out.alloc (.cells #[.slice (some ⟨g, 0, none⟩) L.length c] 25)).alloc (.cells #[.string (str q)] 9))
  have BN := Lib.hid ((BN.out.alloc (.cells #[.slice (some ⟨g, 0, none⟩) L.length c] 25)).alloc (.cells #[.string (str q)] 9))
  have HL3 := Lib.hid ((HL2.out.alloc (.cells #[.slice (some ⟨g, 0, none⟩) L.length c] 25)).alloc (.cells #[.string (str q)] 9))
  have HS3 := Lib.hid (show ((W2.alloc (.cells #[.slice (some ⟨g, 0, none⟩) L.length c] 25)).alloc (.cells #[.string (str q)] 9)).heap.size = m + 4 by simp [HS.out])
  generalize (W2.alloc (.cells #[.slice (some ⟨g, 0, none⟩) L.length c] 25)).alloc (.cells #[.string (str q)] 9) = W3 at *
  clear HB HL2 HS
  refine wpIn_rangeFunc_ownG rfl (by omega) (gf := 94) (lb := #[.pointer (some ⟨m + 1 + 1, 0, none⟩), .pointer (some ⟨m + 1 + 1 + 1, 0, none⟩)]) rfl trivial (enters_of Tryd.func94 (by kernel_rfl) rfl)
    (beg_stops _ (by omega) (m + 1 + 1) (m + 1 + 1 + 1) g c L q hlen W3 (Cs.of_blk BL.out) (Cs.of_blk BS.out) HL3.out) (fun h k => h.trans k) (fun W l o o' _ h1 h2 _ => KeepsC.putObj _ W l o o' h1 h2) (Below.refl _ _) (fun _ => rfl)
    (fun pre W => (∀ j ∈ pre, P8.word L j ≠ q) ∧ Blk W b 9 #[.string (str q)] ∧ Blk W (b + 1) 3 #[.int .i64 0] ∧ Blk W (b + 1 + 1) 4 #[.bool false] ∧ Blk W m 3 #[.int .i64 (P8.last pre 0)] ∧ Blk W (m + 1) 3 #[.int .i64 pre.length] ∧ Below b w W)
    (fun cc pre W => cc = .ret ∧ (∃ ini k, pre = ini ++ [k] ∧ (∀ j ∈ ini, P8.word L j ≠ q) ∧ P8.word L k = q ∧ W.cell? ⟨b + 1, 0, none⟩ = some (.int .i64 (k : Int))) ∧ W.cell? ⟨b + 1 + 1, 0, none⟩ = some (.bool true) ∧ Below b w W)
    (fun s A B row hs hg hr => ⟨hs.1, blk_kept hs.2.1 hg hr, blk_kept hs.2.2.1 hg hr, blk_kept hs.2.2.2.1 hg hr, blk_kept hs.2.2.2.2.1 hg hr, blk_kept hs.2.2.2.2.2.1 hg hr, ownFrom_below (B := W3.heap.size) (Nat.le_of_eq hb.symm) (by rw [HS3.out]; omega) s A B row hs.2.2.2.2.2.2 hg hr⟩)
    (fun cc s A B row hs hg hr => by
      obtain ⟨h1, ⟨ini, k, h2, h3, h4, h5⟩, h6, h7⟩ := hs
      exact ⟨h1, ⟨ini, k, h2, h3, h4, cell_kept h5 hg (fun r e => (hr r e).2)⟩, cell_kept h6 hg (fun r e => (hr r e).2), ownFrom_below (B := W3.heap.size) (Nat.le_of_eq hb.symm) (by rw [HS3.out]; omega) s A B row h7 hg hr⟩)
    ⟨by simp, BX.out, B0.out, B1.out, BF.out, BN.out, HB3.out⟩
    (fun x => { tmps := #[.slice (some ⟨g, 0, none⟩) L.length c, .string s, undef, .pointer (some ⟨b, 0, none⟩), .pointer (some ⟨b + 1, 0, none⟩), .pointer (some ⟨b + 1 + 1, 0, none⟩), .pointer (some ⟨m, 0, none⟩), .pointer (some ⟨m + 1, 0, none⟩), .int .i64 (x : Int), .string (str (P8.word L x)), .string s, .string (str q), .slice (some ⟨g, 0, none⟩) L.length c, .string (str q), .func (.func 94) #[] #[.pointer (some ⟨m + 1 + 1, 0, none⟩), .pointer (some ⟨m + 1 + 1 + 1, 0, none⟩)], .int .i64 (x : Int), .string (str (P8.word L x)), undef, undef, undef, undef, undef, undef, undef, undef, undef, undef], defers := [] }) ?assign ?body ?done ?stop
  case assign =>
    intro l x W K hK
    gi_wp2
    exact hK
  case body =>
    rintro l pre x W ⟨hne, bx, b0, b1, bf, bn, hB⟩ hlenp
    have cx := (bx.cell 0).trans rfl
    have c0 := (b0.cell 0).trans rfl
    have f0 := b0.frozen 0
    have c1 := (b1.cell 0).trans rfl
    have f1 := b1.frozen 0
    have cf := (bf.cell 0).trans rfl
    have ff := bf.frozen 0
    have cn := (bn.cell 0).trans rfl
    have fn := bn.frozen 0
    have hp9 : (pre.length : Int) ≤ 1000 := by omega
    have HNE := Lib.hid hne; have BX4 := Lib.hid bx; have B04 := Lib.hid b0; have B14 := Lib.hid b1; have BF4 := Lib.hid bf; have BN4 := Lib.hid bn; have HB4 := Lib.hid hB
    clear hne bx b0 b1 bf bn hB
    by_cases he : P8.word L x = q
    · have hq : ((str (P8.word L x)).toList == (str q).toList) = true := by rw [he]; simp
      have HE := Lib.hid he
      clear he
      gi_wp2
      exact ⟨((KeepsOthers.setCell _ _ _).trans (KeepsOthers.setCell _ _ _)).from _, rfl, ⟨pre, x, rfl, HNE.out, HE.out, (((B04.out.set_ 0 _).far (p := ⟨b + 1 + 1, 0, none⟩) (by simp) _).cell 0).trans rfl⟩, ((((B14.out.far (p := ⟨b + 1, 0, none⟩) (by simp) _).set_ 0 _)).cell 0).trans rfl,
        (HB4.out.setCell (p := ⟨b + 1, 0, none⟩) (by simp) _).setCell (p := ⟨b + 1 + 1, 0, none⟩) (by simp; omega) _⟩
    · have hq : ((str (P8.word L x)).toList == (str q).toList) = false := by rw [str_list, str_list]; simpa using he
      have HE := Lib.hid he
      have hmx : Tryd.prog.follows .mixedOrders = true := by kernel_rfl
      have hw : wrap64 ((pre.length : Int) + 1) = (pre.length : Int) + 1 := by unfold wrap64; omega
      clear he
      gi_wp2
      gi_region_o
      all_goals gi_wp2
      all_goals (try go_bits)
      all_goals exact body8 hsz hgb HNE.out HE.out BX4.out B04.out B14.out BF4.out BN4.out HB4.out
  case done =>
    rintro D ys W hD rfl ⟨hne, bx, b0, b1, bf, bn, hB⟩ hK
    have cf := (bf.cell 0).trans rfl
    have cn := (bn.cell 0).trans rfl
    have c0 := (b0.cell 0).trans rfl
    have f0 := b0.frozen 0
    have c1 := (b1.cell 0).trans rfl
    have f1 := b1.frozen 0
    have hmx : Tryd.prog.follows .mixedOrders = true := by kernel_rfl
    have BX4 := Lib.hid bx; have B04 := Lib.hid b0; have B14 := Lib.hid b1; have HB4 := Lib.hid hB; have HK := Lib.hid hK; have HF := Lib.hid (P8.find_none hne)
    clear bx b0 b1 bf bn hB hK hne
    gi_wp2
    gi_region_o
    all_goals gi_wp2
    all_goals (try go_bits)
    all_goals
      have hK' := (((KeepsOthers.setCell W ⟨b + 1, 0, none⟩ (.int .i64 (P8.last (P8.hits q L L.length) 0))).trans (KeepsOthers.setCell _ ⟨b + 1 + 1, 0, none⟩ (.bool (((P8.hits q L L.length).length : Int) == 1)))).trans (KeepsOthers.drew _)).same D _ HK.out rfl
      have hW := ((HB4.out.setCell (p := ⟨b + 1, 0, none⟩) (by simp) (.int .i64 (P8.last (P8.hits q L L.length) 0))).setCell (p := ⟨b + 1 + 1, 0, none⟩) (by simp; omega) (.bool (((P8.hits q L L.length).length : Int) == 1))).drew.trans (belowK_b (w := w) (Nat.le_of_eq hb.symm) _ D _ (.deferred none) (by rw [HS3.out] at hD; omega) hK' rfl rfl)
      have k0 := cell_kept ((blk_drew ((B04.out.set_ 0 (.int .i64 (P8.last (P8.hits q L L.length) 0))).far (p := ⟨b + 1 + 1, 0, none⟩) (by simp) (.bool (((P8.hits q L L.length).length : Int) == 1)))).cell 0 |>.trans rfl) (grownBy_putObj' _ D (.deferred none)) (fun r e => by cases e; exact ⟨_, hK', rfl⟩)
      have k1 := cell_kept ((blk_drew ((B14.out.far (p := ⟨b + 1, 0, none⟩) (by simp) (.int .i64 (P8.last (P8.hits q L L.length) 0))).set_ 0 (.bool (((P8.hits q L L.length).length : Int) == 1)))).cell 0 |>.trans rfl) (grownBy_putObj' _ D (.deferred none)) (fun r e => by cases e; exact ⟨_, hK', rfl⟩)
      refine ⟨by simp, .inl ⟨_, _, rfl, run_takeDeferred hK', ?_⟩⟩
      refine ⟨.tuple #[.int .i64 (P8.last (P8.hits q L L.length) 0), .bool (((P8.hits q L L.length).length : Int) == 1)], ?_, ?_⟩
      · simp [results, Tryd.f74, go_sem, k0, k1]
      · have hbb : (((P8.hits q L L.length).length : Int) == 1) = ((P8.hits q L L.length).length == 1) := by rw [Bool.eq_iff_iff, beq_iff_eq, beq_iff_eq]; omega
        rw [HF.out, hb, hbb]
        rw [hbb] at hW
        exact ⟨rfl, hW⟩
  case stop =>
    rintro D cc pre W hD ⟨k, hk, hbg, rfl⟩ ⟨rfl, ⟨ini, k', e1, e2, e3, hc0⟩, hc1, hB⟩ hK
    gi_wp2
    have hW := Lib.hid (hB.trans (belowK_b (w := w) (Nat.le_of_eq hb.symm) W D _ (.deferred none) (by rw [HS3.out] at hD; omega) hK rfl rfl))
    refine ⟨by simp, .inl ⟨_, _, rfl, run_takeDeferred hK, ?_⟩⟩
    have hc5 := cell_kept hc0 (grownBy_putObj' _ D (.deferred none)) (fun r e => by cases e; exact ⟨_, hK, rfl⟩)
    have hc6 := cell_kept hc1 (grownBy_putObj' _ D (.deferred none)) (fun r e => by cases e; exact ⟨_, hK, rfl⟩)
    obtain ⟨e4, e5⟩ := List.append_inj' e1 rfl
    have e6 : k = k' := by simpa using e5
    subst e6
    refine ⟨.tuple #[.int .i64 (k : Int), .bool true], ?_, ?_⟩
    · simp [results, Tryd.f74, go_sem, hc5, hc6]
    · rw [P8.find_some hk hbg (by rw [e4]; exact e2) e3, hb]
      exact ⟨rfl, hW.out⟩
end Go.Proofs.YtggdfgdnpicepaaDoor
