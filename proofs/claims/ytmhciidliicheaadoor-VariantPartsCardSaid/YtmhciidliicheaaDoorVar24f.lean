/- The walks of zone and is (chapter 24). -/
import Derived.Test.YtmhciidliicheaaDoorVar24d
import Derived.Test.YtmhciidliicheaaDoorEqs
import Derived.ArgAppend
namespace Go.Proofs.YtmhciidliicheaaDoor
open Go.RowKit Go.Lib
set_option linter.unusedVariables false

set_option maxRecDepth 100000 in
theorem eqi_place (d : Nat) (w : World) (a0 : Int) (a1 : Int) (a2 : Int) (b0 : Int) (b1 : Int) (b2 : Int) : (Op.equalIn (d + 2) 65 (.agg #[.int .i64 a0, .int .i64 a1, .int .i64 a2]) (.agg #[.int .i64 b0, .int .i64 b1, .int .i64 b2])).run Tryd.prog w = .ok (decide (a0 = b0 ∧ a1 = b1 ∧ a2 = b2)) w := by
  have p0 : Tryd.prog.stoodInHeld 65 = false := by kernel_rfl
  rw [run_equalIn_agg w (d + 1) 65 _ _ (by unfold Program.fieldsOf; rw [Tryd.underlying65]) p0]
  unfold Program.fieldsOf
  rw [Tryd.underlying65]
  simp [Op.eqFields, go_sem, Tryd.underlying3]
  by_cases h0 : a0 = b0
  rotate_left
  · simp [h0]
  by_cases h1 : a1 = b1
  rotate_left
  · simp [h1]
  by_cases h2 : a2 = b2
  rotate_left
  · simp [h2]
  simp [h0, h1, h2]
theorem eql_place (w : World) (a0 : Int) (a1 : Int) (a2 : Int) (b0 : Int) (b1 : Int) (b2 : Int) : (binOp .eql 65 (.agg #[.int .i64 a0, .int .i64 a1, .int .i64 a2]) (.agg #[.int .i64 b0, .int .i64 b1, .int .i64 b2])).run Tryd.prog w = .ok (.bool (decide (a0 = b0 ∧ a1 = b1 ∧ a2 = b2))) w := by
  rw [run_eql_struct, eqi_place 9998]; rfl
theorem neq_place (w : World) (a0 : Int) (a1 : Int) (a2 : Int) (b0 : Int) (b1 : Int) (b2 : Int) : (binOp .neq 65 (.agg #[.int .i64 a0, .int .i64 a1, .int .i64 a2]) (.agg #[.int .i64 b0, .int .i64 b1, .int .i64 b2])).run Tryd.prog w = .ok (.bool (!decide (a0 = b0 ∧ a1 = b1 ∧ a2 = b2))) w := by
  rw [run_neq_struct, eqi_place 9998]; rfl
theorem own_is {w : World} {base n size : Nat} {e : TypeId} {v : Value} {xs : List Value} (h : w.ownsRow base e size v n xs) : ∃ A c, v = .slice A n c := by
  rcases h.2 with ⟨rfl, rfl⟩ | ⟨g, cap, cur, rfl, _⟩
  · exact ⟨_, _, rfl⟩
  · exact ⟨_, _, rfl⟩
theorem own_far {w : World} {base n size : Nat} {e : TypeId} {v : Value} {xs : List Value} (h : w.ownsRow base e size v n xs) {p : Addr} (hp : p.block < base) (u : Value) : (w.setCell p u).ownsRow base e size v n xs := by
  refine ⟨h.1, ?_⟩
  rcases h.2 with q | ⟨g, cap, cur, hv, hg, hh, q⟩
  · exact .inl q
  · exact .inr ⟨g, cap, cur, hv, hg, (Below.heap_setCell w p u g (by omega)).trans hh, q⟩
/-- the era that zone makes of a FORMAT -/
def mkE (f : ByteArray) : EV := ⟨0, 0, 0, ⟨#[]⟩, f, false, 0, 0, 0, 0, 0, 0, 0⟩
def ecells (L : List EV) : List Value := L.flatMap EV.cells
theorem ecells_snoc (L : List EV) (e : EV) : ecells (L ++ [e]) = ecells L ++ e.cells := by unfold ecells; rw [List.flatMap_append]; simp
theorem infoE : (Tryd.prog.info? 33).map (fun i => (i.zero, i.size, i.bytes)) = some (some (.agg #[.int .i64 0, .int .i64 0, .int .i64 0, .string ⟨#[]⟩, .string ⟨#[]⟩, .bool false, .int .i64 0, .int .i64 0, .int .i64 0, .int .i64 0, .int .i64 0, .int .i64 0, .int .i64 0]), 13, 120) := by kernel_rfl
theorem eras_of_own {w : World} {base n : Nat} {v : Value} {L : List EV} (h : w.ownsRow base 33 13 v n (ecells L)) (hn : n = L.length) : ∃ A c, v = .slice A L.length c ∧ CellsIn 13 EV.cells w A L := by
  rcases Nat.eq_zero_or_pos n with h0 | h0
  · subst hn
    rw [h0]
    have hL : L = [] := List.length_eq_zero_iff.1 h0
    subst hL
    rcases h.2 with ⟨rfl, _⟩ | ⟨g, cap, cur, rfl, _⟩
    · exact ⟨none, 0, rfl, CellsIn.nil _ _⟩
    · exact ⟨_, cap, rfl, CellsIn.nil _ _⟩
  · obtain ⟨B, cap, hv, hB, hlt, hcap, hc⟩ := own_form h h0
    refine ⟨some ⟨B, 0, none⟩, cap, by rw [hv, hn], fun k r hr => ⟨B, 0, rfl, hlt, fun j u hu => ?_⟩⟩
    have hj : j < 13 := (List.getElem?_eq_some_iff.mp hu).1
    rw [Nat.zero_add]
    exact hc _ _ ((flat_at (m := 13) (fun _ => rfl) L k j r hj hr).trans hu)
theorem own_base {w : World} {b1 b2 n size : Nat} {e : TypeId} {v : Value} {xs : List Value} (hb : b2 ≤ b1) (h : w.ownsRow b1 e size v n xs) : w.ownsRow b2 e size v n xs := by
  refine ⟨h.1, ?_⟩
  rcases h.2 with q | ⟨g, cap, cur, hv, hg, q⟩
  · exact .inl q
  · exact .inr ⟨g, cap, cur, hv, Nat.le_trans hb hg, q⟩
def zoneE (fs : List ByteArray) (k : Nat) : List EV := (fs.take k).map mkE
set_option maxRecDepth 100000 in
set_option maxHeartbeats 8000000 in
theorem zone_own (A : Option Addr) (c : Nat) (fs : List ByteArray) (w : World) (hl : fs.length ≤ 1000) (hF : CellsIn 1 (fun b : ByteArray => [Value.string b]) w A fs) :
    Calls Tryd.prog 65 #[.slice A fs.length c] w fun e w' => ∃ v, e = .returned (.agg #[.string ⟨#[90]⟩, v]) ∧ w'.ownsRow w.heap.size 33 13 v fs.length (ecells (fs.map mkE)) ∧ Below w.heap.size w w' := by
  have hli : (fs.length : Int) ≤ 1000 := by omega
  generalize hN : fs.length = N at hl hli ⊢
  have HN := Lib.hid hN
  clear hN
  have hD := (Blk.new w 87 #[.string ⟨#[]⟩, .slice none 0 0]).alloc (.cells #[.string ⟨#[90]⟩, .slice none 0 0] 87)
  have hZ := Blk.newAt (w.alloc (.cells #[.string ⟨#[]⟩, .slice none 0 0] 87)) (w.heap.size + 1) (by simp) 87 #[.string ⟨#[90]⟩, .slice none 0 0]
  have hb0 := ((Below.refl w.heap.size w).alloc (Nat.le_refl _) (.cells #[.string ⟨#[]⟩, .slice none 0 0] 87)).alloc (by simp) (.cells #[.string ⟨#[90]⟩, .slice none 0 0] 87)
  have hO : ((w.alloc (.cells #[.string ⟨#[]⟩, .slice none 0 0] 87)).alloc (.cells #[.string ⟨#[90]⟩, .slice none 0 0] 87)).ownsRow (w.heap.size + 2) 33 13 (.slice none 0 0) 0 (ecells (zoneE fs 0)) := ⟨rfl, .inl ⟨rfl, rfl⟩⟩
  go_enter Tryd.func65, Tryd.ntmps65
  go_wp2_with fail
  generalize (w.alloc (.cells #[.string ⟨#[]⟩, .slice none 0 0] 87)).alloc (.cells #[.string ⟨#[90]⟩, .slice none 0 0] 87) = W0 at hD hZ hb0 hO
  go_loopw [9] (fun i wr => ∃ (k : Nat) (v : Value), k ≤ N ∧ i = .int .i64 (k : Int) ∧ wr.ownsRow (w.heap.size + 2) 33 13 v k (ecells (zoneE fs k)) ∧ Blk wr (w.heap.size + 1) 87 #[.string ⟨#[90]⟩, v] ∧ Blk wr w.heap.size 87 #[.string ⟨#[]⟩, .slice none 0 0] ∧ Below w.heap.size w wr) (fun i _ => N - (intOf i).toNat)
  case atStart => exact ⟨0, _, Nat.zero_le _, rfl, hO, hZ, hD, hb0⟩
  case round =>
    clear hD hZ hb0 hO
    obtain ⟨k, v, hk, rfl, hO, hZ, hD, hb⟩ := hrel
    by_cases hlt : k < N
    · obtain ⟨f, hf⟩ : ∃ f, fs[k]? = some f := ⟨_, List.getElem?_eq_getElem (by rw [HN.out]; exact hlt)⟩
      have hki : (k : Int) < (N : Int) := by omega
      obtain ⟨b, o, rfl, hbl, hcc⟩ := (hF.below hb) k f hf
      have c0 : wr.cell? ⟨b, o + k, none⟩ = some (.string f) := by
        have q := hcc 0 _ rfl
        rwa [Nat.mul_one, Nat.add_zero] at q
      have HS : Hid (ecells (zoneE fs (k + 1)) = ecells (zoneE fs k) ++ (mkE f).cells) := by
        unfold zoneE
        rw [List.take_add_one, hf, List.map_append]
        exact Lib.hid (ecells_snoc _ _)
      have z1 := ((hZ.alloc (.cells #[.int .i64 0, .int .i64 0, .int .i64 0, .string ⟨#[]⟩, .string f, .bool false, .int .i64 0, .int .i64 0, .int .i64 0, .int .i64 0, .int .i64 0, .int .i64 0, .int .i64 0] 33)).cell 1).trans rfl
      have hNB : Hid (Blk (wr.alloc (.cells #[.int .i64 0, .int .i64 0, .int .i64 0, .string ⟨#[]⟩, .string f, .bool false, .int .i64 0, .int .i64 0, .int .i64 0, .int .i64 0, .int .i64 0, .int .i64 0, .int .i64 0] 33)) wr.heap.size 33 #[.int .i64 0, .int .i64 0, .int .i64 0, .string ⟨#[]⟩, .string f, .bool false, .int .i64 0, .int .i64 0, .int .i64 0, .int .i64 0, .int .i64 0, .int .i64 0, .int .i64 0]) := Lib.hid (Blk.new _ _ _)
      have HO := Lib.hid (hO.alloc (.cells #[.int .i64 0, .int .i64 0, .int .i64 0, .string ⟨#[]⟩, .string f, .bool false, .int .i64 0, .int .i64 0, .int .i64 0, .int .i64 0, .int .i64 0, .int .i64 0, .int .i64 0] 33))
      have HZ := Lib.hid (hZ.alloc (.cells #[.int .i64 0, .int .i64 0, .int .i64 0, .string ⟨#[]⟩, .string f, .bool false, .int .i64 0, .int .i64 0, .int .i64 0, .int .i64 0, .int .i64 0, .int .i64 0, .int .i64 0] 33))
      have HD := Lib.hid (hD.alloc (.cells #[.int .i64 0, .int .i64 0, .int .i64 0, .string ⟨#[]⟩, .string f, .bool false, .int .i64 0, .int .i64 0, .int .i64 0, .int .i64 0, .int .i64 0, .int .i64 0, .int .i64 0] 33))
      have HB := Lib.hid (hb.alloc hb.size (.cells #[.int .i64 0, .int .i64 0, .int .i64 0, .string ⟨#[]⟩, .string f, .bool false, .int .i64 0, .int .i64 0, .int .i64 0, .int .i64 0, .int .i64 0, .int .i64 0, .int .i64 0] 33))
      have HL := Lib.hid (show w.heap.size + 2 ≤ (wr.alloc (.cells #[.int .i64 0, .int .i64 0, .int .i64 0, .string ⟨#[]⟩, .string f, .bool false, .int .i64 0, .int .i64 0, .int .i64 0, .int .i64 0, .int .i64 0, .int .i64 0, .int .i64 0] 33)).heap.size by have := HZ.out.lt; omega)
      have HK := Lib.hid (show k ≤ 1000 by omega)
      obtain ⟨i0, hi, hz0, hz1, hz2⟩ := info_parts infoE
      have z0 := (hZ.cell 1).trans rfl
      clear hO hZ hD hb hcc hf
      go_wp2_with (at_builtin; refine wpList_append_own _ rfl _ _ 85 rfl (w.heap.size + 2) 33 i0 (.agg #[.int .i64 0, .int .i64 0, .int .i64 0, .string ⟨#[]⟩, .string ⟨#[]⟩, .bool false, .int .i64 0, .int .i64 0, .int .i64 0, .int .i64 0, .int .i64 0, .int .i64 0, .int .i64 0]) 13 120 Tryd.underlying85 hi hz0 hz1 hz2 rfl (by decide) _ _ _ rfl HO.out ⟨wr.heap.size, 0, none⟩ 1 1 (mkE f).cells rfl rfl (blk_cells hNB.out) (by simp [mkE, EV.cells, Value.oneCell']) (by have := HK.out; simp only [maxLen]; omega) (by have := HK.out; omega) HL.out ?_)
      intro v1 wa hown hgr hne
      rw [← HS.out] at hown
      obtain ⟨A1, c1, rfl⟩ := own_is hown
      have hZ3 := blk_grown HZ.out HO.out hgr (by omega)
      have hD3 := blk_grown HD.out HO.out hgr (by omega)
      have hb3 := own_grown HB.out HO.out hgr HB.out.size (Nat.le_add_right _ 2)
      have z2 := (hZ3.cell 1).trans rfl
      have f2 := hZ3.frozen 1
      have HO4 := Lib.hid (own_far hown (p := ⟨w.heap.size + 1, 1, none⟩) (Nat.lt_succ_self _) (.slice A1 (k + 1) c1))
      have HZ4 := Lib.hid (hZ3.set_ 1 (.slice A1 (k + 1) c1))
      have HD4 := Lib.hid (hD3.far (p := ⟨w.heap.size + 1, 1, none⟩) (by simp) (.slice A1 (k + 1) c1))
      have HB4 := Lib.hid (hb3.setCell (p := ⟨w.heap.size + 1, 1, none⟩) (Nat.le_succ _) (.slice A1 (k + 1) c1))
      clear hZ3 hD3 hb3 hown hgr hne HO HZ HD HB hNB HS z1 z0 HL c0
      go_wp2_with fail
      go_roundw
      case rel => exact ⟨k + 1, _, by omega, by go_num, HO4.out, HZ4.out, HD4.out, HB4.out⟩
      case measure => simp [intOf]; omega
    · obtain rfl : k = N := by omega
      have hki : ¬ (k : Int) < (k : Int) := by omega
      have hfl : (fs.map mkE).length = k := by rw [List.length_map]; exact HN.out
      have hE : zoneE fs k = fs.map mkE := by unfold zoneE; rw [List.take_of_length_le (by rw [HN.out]; exact Nat.le_refl _)]
      rw [hE] at hO
      obtain ⟨A', c', rfl⟩ := own_is hO
      have z0 := (hZ.cell 0).trans rfl
      have z1 := (hZ.cell 1).trans rfl
      have d0 := (hD.cell 0).trans rfl
      have d1 := (hD.cell 1).trans rfl
      have g0 := hD.frozen 0
      have g1 := hD.frozen 1
      have HDD := Lib.hid ((hD.set_ 0 (.string ⟨#[90]⟩)).set_ 1 (.slice A' k c'))
      have HBB := Lib.hid ((hb.setCell (p := ⟨w.heap.size, 0, none⟩) (Nat.le_refl _) (.string ⟨#[90]⟩)).setCell (p := ⟨w.heap.size, 1, none⟩) (Nat.le_refl _) (.slice A' k c'))
      have HOO := Lib.hid (own_base (Nat.le_add_right w.heap.size 2) (own_far (own_far hO (p := ⟨w.heap.size, 0, none⟩) (by show w.heap.size < _; omega) (.string ⟨#[90]⟩)) (p := ⟨w.heap.size, 1, none⟩) (by show w.heap.size < _; omega) (.slice A' k c')))
      clear hO hZ hD hb hE hfl
      go_wp2_with fail
      have r0 := HDD.out.cell 0
      have r1 := HDD.out.cell 1
      exact bodyPost_ret (v := .agg #[.string ⟨#[90]⟩, .slice A' k c']) (by simp [results, Tryd.results65, go_sem, r0, r1]) rfl ⟨_, rfl, HOO.out, HBB.out⟩
theorem zone_any (A : Option Addr) (c : Nat) (fs : List ByteArray) (w : World) (hl : fs.length ≤ 1000) (hF : CellsIn 1 (fun b : ByteArray => [Value.string b]) w A fs) :
    Calls Tryd.prog 65 #[.slice A fs.length c] w fun e w' => ∃ A' c', e = .returned (.agg #[.string ⟨#[90]⟩, .slice A' fs.length c']) ∧ CellsIn 13 EV.cells w' A' (fs.map mkE) ∧ Below w.heap.size w w' :=
  (zone_own A c fs w hl hF).mono fun e w' ⟨v, he, ho, hb⟩ => by
    obtain ⟨A', c', hv, hC⟩ := eras_of_own ho (List.length_map _).symm
    exact ⟨A', c', by rw [he, hv, List.length_map], hC, hb⟩
end Go.Proofs.YtmhciidliicheaaDoor
