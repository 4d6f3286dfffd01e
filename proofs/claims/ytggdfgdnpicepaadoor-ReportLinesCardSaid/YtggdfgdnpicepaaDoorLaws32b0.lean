/- What the law ReportLines leans on (chapter 32). -/
import Derived.Test.YtggdfgdnpicepaaDoorLaws32a
import Derived.Test.YtggdfgdnpicepaaDoorPlain32d
import Derived.Test.YtggdfgdnpicepaaDoorCs
namespace Go.Proofs.YtggdfgdnpicepaaDoor
open Go.RowKit
set_option linter.unusedVariables false
set_option linter.unusedSimpArgs false

def numCells (n : Int) : List Value := [.int .u16 n]
theorem num_bounds {n : Int} (h : (Lit.int .u16 n).wf = true) : 0 ≤ n ∧ n ≤ 65535 := by
  have := h
  simp only [Lit.wf, Bool.and_eq_true, decide_eq_true_eq, show IntKind.u16.min = 0 from rfl, show IntKind.u16.max = 65535 from rfl] at this
  omega
theorem u16_id {n : Int} (h : 0 ≤ n ∧ n ≤ 65535) : IntKind.u16.wrap n = n := by
  unfold IntKind.wrap
  simp [IntKind.bits, IntKind.signed]
  omega
theorem ccells_set : ∀ (M : List P32.CV) (r j : Nat) (c d : P32.CV) (u : Value), j < 4 → M[r]? = some c → d.cells = c.cells.set j u → (ccells M).set (r * 4 + j) u = ccells (M.set r d)
  | [], r, j, c, d, u, _, h, _ => by simp at h
  | x :: M, 0, j, c, d, u, hj, h, hd => by
    simp only [List.getElem?_cons_zero, Option.some.injEq] at h
    subst h
    unfold ccells
    rw [List.flatMap_cons, Nat.zero_mul, Nat.zero_add, List.set_append_left _ _ (by show j < 4; exact hj), List.set_cons_zero, List.flatMap_cons, hd]
  | x :: M, r + 1, j, c, d, u, hj, h, hd => by
    simp only [List.getElem?_cons_succ] at h
    have ih := ccells_set M r j c d u hj h hd
    unfold ccells at ih ⊢
    have hl : x.cells.length = 4 := rfl
    rw [List.flatMap_cons, List.set_append_right _ _ (by rw [hl]; omega), hl, show (r + 1) * 4 + j - 4 = r * 4 + j by omega, ih, List.set_cons_succ, List.flatMap_cons]
theorem ch_of_cs {W : World} {B : Nat} {M : List P32.CV} (h : Cs W B (ccells M)) : ChIn W (some ⟨B, 0, none⟩) M := fun k r hr => ⟨B, 0, rfl, h.lt, fun j u hu => by
  rw [Nat.zero_add]
  exact h.cell _ _ ((ccells_at M k j r (by have := (List.getElem?_eq_some_iff.mp hu).1; simpa [P32.CV.cells] using this) hr).trans hu)⟩
theorem set_ok {M : List P32.CV} {r : Nat} {d : P32.CV} (h : ChOk M) (hd : ChOk [d]) : ChOk (M.set r d) := fun c hc => by
  rcases List.mem_or_eq_of_mem_set hc with q | q
  · exact h c q
  · rw [q]; exact hd d (by simp)
/-- the text of the list with one element altered -/
theorem rep_set (Bo cpo r j : Nat) (M : List P32.CV) (c d : P32.CV) (u : Value) (W : World) (hC : Cs W Bo (ccells M)) (hr : M[r]? = some c) (hj : j < 4) (hd : d.cells = c.cells.set j u) (hok : ChOk M) (hd2 : ChOk [d]) (hl : M.length ≤ 20) (hv : Vars (W.setCell ⟨Bo, r * 4 + j, none⟩ u)) :
    Calls Tryd.prog 20 #[.slice (some ⟨Bo, 0, none⟩) M.length cpo] (W.setCell ⟨Bo, r * 4 + j, none⟩ u) fun e w' => e = .returned (.tuple #[.string (str (P32.text (M.set r d)).1), .int .i64 (P32.text (M.set r d)).2]) ∧ Below (W.setCell ⟨Bo, r * 4 + j, none⟩ u).heap.size (W.setCell ⟨Bo, r * 4 + j, none⟩ u) w' := by
  have h2 := hC.set_ (r * 4 + j) u
  rw [ccells_set M r j c d u hj hr hd] at h2
  have q := rep_text (some ⟨Bo, 0, none⟩) cpo (M.set r d) _ (by rw [List.length_set]; omega) (ch_of_cs h2) (set_ok hok hd2) hv
  rw [List.length_set] at q
  exact q
theorem str_list32 (l : List UInt8) : (str l).toList = l := by rw [ByteArray.toList_eq]; rfl
theorem set_right {M : List P32.CV} {r : Nat} {c : P32.CV} (hM : ∀ x ∈ M, P32.right x) (hr : M[r]? = some c) (how : Int) (d : P32.CV) :
    (P32.alt how c = (d, true) → P32.text (M.set r d) = ((M.set r d).flatMap P32.line, 0) ∧ ((str ((M.set r d).flatMap P32.line)).toList != (str (M.flatMap P32.line)).toList) = true) ∧
    (P32.alt how c = (d, false) → P32.text (M.set r d) = ([], 2)) := by
  have hc := hM c (List.mem_of_getElem? hr)
  have hlt := (List.getElem?_eq_some_iff.1 hr).1
  have hal := P32.alt_law how c hc
  refine ⟨fun h => ?_, fun h => ?_⟩
  · rw [h] at hal
    obtain ⟨h1, h2⟩ := hal.1 rfl
    refine ⟨if_pos (fun x hx => ?_), ?_⟩
    · rcases List.mem_or_eq_of_mem_set hx with q | q
      · exact hM x q
      · rw [q]; exact h1
    · rw [bne_iff_ne, str_list32, str_list32]
      exact P32.text_set hr hc h1 h2
  · rw [h] at hal
    have h1 := hal.2 rfl
    exact if_neg (fun q => h1 (q d (List.mem_of_getElem? (by rw [List.getElem?_set_self hlt]))))
theorem u8_bounds {n : Int} (h : (Lit.int .u8 n).wf = true) : 0 ≤ n ∧ n ≤ 255 := by
  have := h
  simp only [Lit.wf, Bool.and_eq_true, decide_eq_true_eq, show IntKind.u8.min = 0 from rfl, show IntKind.u8.max = 255 from rfl] at this
  omega
theorem rest_of {n : Int} {m : Nat} (h : 0 ≤ n ∧ n ≤ 255) (hm : 0 < m ∧ m ≤ 1000) : ∃ i : Nat, i < m ∧ n.tmod (m : Int) = (i : Int) := by
  refine ⟨(n % (m : Int)).toNat, ?_, ?_⟩
  · have h1 := Int.emod_lt_of_pos n (show (0 : Int) < m by omega)
    have h2 := Int.emod_nonneg n (show (m : Int) ≠ 0 by omega)
    omega
  · rw [Int.tmod_eq_emod_of_nonneg h.1]
    have h2 := Int.emod_nonneg n (show (m : Int) ≠ 0 by omega)
    omega
theorem ccells_len (M : List P32.CV) : (ccells M).length = M.length * 4 := by
  induction M with
  | nil => rfl
  | cons c M ih => unfold ccells at ih ⊢; rw [List.flatMap_cons, List.length_append, ih, List.length_cons, show c.cells.length = 4 from rfl]; omega
theorem ccells_one (M : List P32.CV) : ∀ u ∈ ccells M, u.oneCell' = true := by
  intro u hu
  obtain ⟨c, _, h⟩ := List.mem_flatMap.1 hu
  simp only [P32.CV.cells, List.mem_cons, List.not_mem_nil, or_false] at h
  rcases h with rfl | rfl | rfl | rfl <;> rfl
theorem in64 (n : Int) (h : 0 ≤ n ∧ n ≤ 1000000) : wrap64 n = n := by unfold wrap64; omega
theorem neg64 (n : Int) (h : -1000000 ≤ n ∧ n ≤ 1000000) : wrap64 n = n := by unfold wrap64; omega
theorem bne_no {x y : List UInt8} (h : (x != y) = true) : (x == y) = false := by rw [beq_eq_false_iff_ne]; exact bne_iff_ne.1 h
theorem num_facts {n : Int} (h : 0 ≤ n ∧ n ≤ 65535) : n.tdiv 8 = n / 8 ∧ n.tdiv 64 = n / 64 ∧ n.tmod 8 = n % 8 ∧ n.tmod 3 = n % 3 ∧ n.tmod 7 = n % 7 ∧ (n / 8).tmod 8 = n / 8 % 8 ∧ IntKind.u16.wrap (n / 8) = n / 8 ∧ IntKind.u16.wrap (n / 64) = n / 64 ∧
    wrap64 (n / 8) = n / 8 ∧ wrap64 (n / 64) = n / 64 ∧ wrap64 (n % 3) = n % 3 ∧ wrap64 (1 + n % 3) = 1 + n % 3 ∧ wrap64 (n / 8 % 8) = n / 8 % 8 ∧ wrap64 (n % 7) = n % 7 ∧ wrap64 (1 + n % 7) = 1 + n % 7 ∧ wrap64 (4 * (1 + n % 7)) = 4 * (1 + n % 7) :=
  ⟨Int.tdiv_eq_ediv_of_nonneg h.1, Int.tdiv_eq_ediv_of_nonneg h.1, Int.tmod_eq_emod_of_nonneg h.1, Int.tmod_eq_emod_of_nonneg h.1, Int.tmod_eq_emod_of_nonneg h.1, Int.tmod_eq_emod_of_nonneg (by omega), u16_id (by omega), u16_id (by omega),
    in64 _ (by omega), in64 _ (by omega), in64 _ (by omega), in64 _ (by omega), in64 _ (by omega), in64 _ (by omega), in64 _ (by omega), in64 _ (by omega)⟩
end Go.Proofs.YtggdfgdnpicepaaDoor
