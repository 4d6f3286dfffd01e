/- Texts of one proof, one behind the other: Plain25; Mad25a; Grow2; Mad23b; RinvE; K25; L25; RinvY; Two30; S25; U25; Z25; Few25; Apart29; RinvZ. -/
import Derived.Test.YtlideagcmhlkeaaDoorT7
import Derived.BigRegion
import Derived.BigQuiet
import Derived.IntWalk
import Derived.Laws.IdiomCopy
import Derived.Deep.MidRow

/- Drafts of layer 25 as values, and the source that one makes, as a function of its numbers. No function of the program. -/
namespace Go.Proofs.YtlideagcmhlkeaaDoor
open Go.RowKit
set_option linter.unusedVariables false

/-- a draft by its cells -/
structure D25 where
  sA : Option Addr
  sc : Nat
  sets : List (Option Addr × Nat × List Int)
  zs : Int
  ls : Int
  lA : Option Addr
  lc : Nat
  nums : List Int
def D25.cells (d : D25) : List Value := [.slice d.sA d.sets.length d.sc, .int .u8 d.zs, .int .u8 d.ls, .slice d.lA d.nums.length d.lc]
structure D25In (w : World) (d : D25) : Prop where
  sets : CellsIn 1 setCells w d.sA d.sets
  draws : ∀ s ∈ d.sets, Dr w s.1 s.2.2
  nums : Dr w d.lA d.nums
  lens : d.sets.length ≤ maxLen
  zs : 0 ≤ d.zs ∧ d.zs ≤ 255
  ls : 0 ≤ d.ls ∧ d.ls ≤ 255
theorem D25In.below {w w' : World} {d : D25} (h : D25In w d) (hb : Below w.heap.size w w') : D25In w' d :=
  ⟨h.sets.below hb, fun s hs => (h.draws s hs).below hb, h.nums.below hb, h.lens, h.zs, h.ls⟩
namespace P25
/-- the number of a draft behind n steps, below m -/
def g (L : List Int) (n m : Nat) : Nat := if L.length = 0 then n % m else ((L[n % L.length]?).getD 0).toNat % m
theorem g_lt (L : List Int) (n : Nat) {m : Nat} (h : 0 < m) : g L n m < m := by
  unfold g
  split <;> exact Nat.mod_lt _ h
def sn (k : Nat) : ByteArray := if k = 0 then ⟨#[82]⟩ else ⟨#[69, 117, 45, 120]⟩
def zn (k : Nat) : ByteArray := if k = 0 then ⟨#[65, 47, 66]⟩ else if k = 1 then ⟨#[67]⟩ else ⟨#[68, 45, 101, 47, 70, 47, 71]⟩
def ln (k : Nat) : ByteArray := if k = 0 then ⟨#[88]⟩ else if k = 1 then ⟨#[65, 47, 89]⟩ else ⟨#[90, 95, 49]⟩
def f4 (k : Nat) : ByteArray := if k = 0 then ⟨#[76, 77, 84]⟩ else if k = 1 then ⟨#[71, 77, 84, 47, 66, 83, 84]⟩ else if k = 2 then ⟨#[67, 69, 37, 115, 84]⟩ else ⟨#[37, 122]⟩
section
variable (L : List Int) (D : Nat → List Int) (made : Nat)
def baseE (n : Nat) : EV := ⟨((g L (n + 1) 53 : Int) - 26) * 1800, 0, 0, ⟨#[]⟩, f4 (g L (n + 2) 4), false, 0, 0, 0, 0, 0, 0, 0⟩
def setE (n : Nat) : EV :=
  ⟨offOf (g L (n + 5) 49 : Int), 2, 0, sn (g L (n + 4) made), fmt21 ((g L (n + 6) 4 : Int).tmod 5) (g L (n + 5) 49 : Int) (P17.made (D (g L (n + 4) made)) (sn (g L (n + 4) made))), false, 0, 0, 0, 0, 0, 0, 0⟩
def fixE (n : Nat) : EV := { baseE L n with kind := 1, save := (1 + (g L (n + 4) 4 : Int)) * 1800 }
/-- which sort of era: 0 that of a set, 1 with a save of its own, 2 neither -/
def sort (k n : Nat) : Nat := if 0 < k ∧ 1 < g L (n + 3) 5 ∧ 0 < made then 0 else if g L (n + 3) 5 = 1 then 1 else 2
def era (k n : Nat) : EV × Nat := if sort L made k n = 0 then (setE L D made n, n + 6) else if sort L made k n = 1 then (fixE L n, n + 4) else (baseE L n, n + 3)
def erasTo (n : Nat) : Nat → List EV × Nat
  | 0 => ([], n)
  | k + 1 => ((erasTo n k).1 ++ [(era L D made k (erasTo n k).2).1], (era L D made k (erasTo n k).2).2)
theorem eras_len (n : Nat) : ∀ k, (erasTo L D made n k).1.length = k
  | 0 => rfl
  | k + 1 => by show ((erasTo L D made n k).1 ++ [_]).length = k + 1; rw [List.length_append, eras_len n k]; rfl
def untE (y : Int) (n : Nat) (e : EV) : EV := { e with ui := true, uy := y, um := 12, dk := 1, dw := 0, dd := 5 + (g L (n + 2) 20 : Int), asec := (g L (n + 3) 49 : Int) * 1800, ab := (g L (n + 4) 3 : Int) }
/-- the ends of the first eras -/
def untTo (E : List EV) (n : Nat) (y : Int) : Nat → List EV × Nat × Int
  | 0 => (E, n, y)
  | k + 1 => ((untTo E n y k).1.modify k (untE L ((untTo E n y k).2.2 + (1 + (g L ((untTo E n y k).2.1 + 1) 40 : Int))) (untTo E n y k).2.1), (untTo E n y k).2.1 + 4, (untTo E n y k).2.2 + (1 + (g L ((untTo E n y k).2.1 + 1) 40 : Int)))
def cnt (n : Nat) : Nat := 1 + g L (n + 2) 4
/-- the eras of a zone that begins behind n steps, and how many steps it takes -/
def zone (n : Nat) : List EV × Nat :=
  ((untTo L (erasTo L D made (n + 2) (cnt L n)).1 (erasTo L D made (n + 2) (cnt L n)).2 (1860 + (g L (n + 1) 60 : Int)) (cnt L n - 1)).1, (untTo L (erasTo L D made (n + 2) (cnt L n)).1 (erasTo L D made (n + 2) (cnt L n)).2 (1860 + (g L (n + 1) 60 : Int)) (cnt L n - 1)).2.1)
def zonesTo : Nat → List (ByteArray × List EV) × Nat
  | 0 => ([], 0)
  | i + 1 => ((zonesTo i).1 ++ [(zn i, (zone L D made (zonesTo i).2).1)], (zone L D made (zonesTo i).2).2)
/-- a link: Z the zones' names; how many steps it takes -/
def link (Z : List ByteArray) (i n : Nat) : KV × Nat :=
  if i = 0 then (⟨(Z[g L (n + 1) Z.length]?).getD ⟨#[]⟩, ln i⟩, n + 1)
  else if g L (n + 2) 2 = 0 then (⟨ln (i - 1), ln i⟩, n + 2) else (⟨(Z[g L (n + 1) Z.length]?).getD ⟨#[]⟩, ln i⟩, n + 2)
def linksTo (Z : List ByteArray) (n : Nat) : Nat → List KV × Nat
  | 0 => ([], n)
  | i + 1 => ((linksTo Z n i).1 ++ [(link L Z i (linksTo Z n i).2).1], (link L Z i (linksTo Z n i).2).2)
def rules (n : Nat) : List RV := (List.range n).flatMap fun i => P17.made (D i) (sn i)
theorem rules_succ (n : Nat) : rules D (n + 1) = rules D n ++ P17.made (D n) (sn n) := by
  unfold rules
  rw [List.range_succ, List.flatMap_append, List.flatMap_singleton]
end
end P25
/-- the bytes of the set at a place -/
def D25.dr (d : D25) (i : Nat) : List Int := (d.sets[i]?.map (·.2.2)).getD []
def D25.made (d : D25) : Nat := min d.sets.length 2
def D25.zn (d : D25) : Nat := (d.zs % 4).toNat
def D25.ln (d : D25) : Nat := (d.ls % 4).toNat
def D25.zl (d : D25) : List (ByteArray × List EV) × Nat := P25.zonesTo d.nums d.dr d.made d.zn
/-- the values of the source that a draft makes -/
structure Is25 (d : D25) (t : SV) : Prop where
  rules : t.rules = P25.rules d.dr d.made
  zones : t.zones.map (fun z => (z.name, z.eras)) = d.zl.1
  links : t.links = if d.zn = 0 then [] else (P25.linksTo d.nums (d.zl.1.map (·.1)) d.zl.2 d.ln).1
  shifts : t.shifts = []
/-- two sources of one draft are the same -/
theorem Is25.same {d : D25} {s t : SV} (h : Is25 d s) (k : Is25 d t) : sSame14 s t := by
  have hz : s.zones.map (fun z => (z.name, z.eras)) = t.zones.map (fun z => (z.name, z.eras)) := h.zones.trans k.zones.symm
  refine ⟨h.rules.trans k.rules.symm, h.links.trans k.links.symm, h.shifts.trans k.shifts.symm, ?_, fun i z y hi hz1 hy => ?_⟩
  · have := congrArg List.length hz
    rwa [List.length_map, List.length_map] at this
  · have q : (s.zones.map fun z => (z.name, z.eras))[i]? = (t.zones.map fun z => (z.name, z.eras))[i]? := by rw [hz]
    rw [List.getElem?_map, List.getElem?_map, hz1, hy] at q
    injection q with q
    injection q with q1 q2
    exact ⟨q1, q2⟩
end Go.Proofs.YtlideagcmhlkeaaDoor

/- The walks of the names and of the counter of a draft of layer 25. -/
namespace Go.Proofs.YtlideagcmhlkeaaDoor
open Go.RowKit Go.Lib
set_option linter.unusedVariables false
set_option linter.unusedSimpArgs false

set_option maxRecDepth 100000 in
set_option maxHeartbeats 4000000 in
theorem names25_any (w : World) :
    Calls Tryd.prog 69 #[] w fun e w' => e = .returned (.tuple #[.slice (some ⟨w.heap.size, 0, none⟩) 2 2, .slice (some ⟨w.heap.size + 1, 0, none⟩) 3 3, .slice (some ⟨w.heap.size + 2, 0, none⟩) 3 3]) ∧
      w' = ((w.alloc (.cells #[.string ⟨#[82]⟩, .string ⟨#[69, 117, 45, 120]⟩] 9)).alloc (.cells #[.string ⟨#[65, 47, 66]⟩, .string ⟨#[67]⟩, .string ⟨#[68, 45, 101, 47, 70, 47, 71]⟩] 9)).alloc (.cells #[.string ⟨#[88]⟩, .string ⟨#[65, 47, 89]⟩, .string ⟨#[90, 95, 49]⟩] 9) := by
  go_enter Tryd.func69, Tryd.ntmps69
  go_wp2_with fail
  go_ret3
  exact ⟨rfl, rfl⟩
theorem g_zero {L : List Int} (h : L.length = 0) (n m : Nat) : P25.g L n m = n % m := by unfold P25.g; rw [if_pos h]
theorem g_pos {L : List Int} {x : Int} {n : Nat} (h : L[n % L.length]? = some x) (m : Nat) : P25.g L n m = x.toNat % m := by
  have h0 : 0 < L.length := Nat.lt_of_le_of_lt (Nat.zero_le _) (List.getElem?_eq_some_iff.mp h).1
  unfold P25.g; rw [if_neg (by omega), h]; rfl
theorem tmod_nat (a b : Nat) : (a : Int).tmod (b : Int) = ((a % b : Nat) : Int) := by rw [Int.tmod_eq_emod_of_nonneg (by omega)]; exact (Int.natCast_emod a b).symm
set_option maxRecDepth 100000 in
set_option maxHeartbeats 8000000 in
theorem at25_any (d : D25) (n m N D : Nat) (w0 w : World) (hm : 1 ≤ m ∧ m ≤ 1000) (hn : n ≤ 100000) (hN : Blk w N 3 #[.int .i64 (n : Int)]) (hD : Blk w D 79 #[.slice d.sA d.sets.length d.sc, .int .u8 d.zs, .int .u8 d.ls, .slice d.lA d.nums.length d.lc]) (hd : Dr w0 d.lA d.nums) (hbw : Below w0.heap.size w0 w) (hN0 : w0.heap.size ≤ N) :
    Calls Tryd.prog 68 #[.int .i64 (m : Int), .pointer (some ⟨N, 0, none⟩), .pointer (some ⟨D, 0, none⟩)] w fun e w' => e = .returned (.int .i64 (P25.g d.nums (n + 1) m : Int)) ∧ ∃ q, w' = (w.setCell ⟨N, 0, none⟩ (.int .i64 ((n + 1 : Nat) : Int))).drewN q := by
  obtain ⟨hl, hF, hG⟩ := hd
  unfold maxLen at hl
  have hli : (d.nums.length : Int) ≤ 9223372036854775807 := by omega
  obtain ⟨m1, m2⟩ := hm
  have hm0 : ¬ ((m : Int) = 0) := by omega
  have hN1 : Blk (w.setCell ⟨N, 0, none⟩ (.int .i64 ((n + 1 : Nat) : Int))) N 3 #[.int .i64 ((n + 1 : Nat) : Int)] := hN.set_ 0 _
  have hne : D ≠ N := fun q => by
    subst q
    unfold Blk at hN hD
    rw [hN] at hD
    injection hD with hD
    injection hD with _ hD _
    revert hD; decide
  have hD1 := hD.far (p := ⟨N, 0, none⟩) hne (.int .i64 ((n + 1 : Nat) : Int))
  have c0 := (hN.cell 0).trans rfl
  have f0 := hN.frozen 0
  have e3 := (hD1.cell 3).trans rfl
  have c1 := (hN1.cell 0).trans rfl
  have hs : wrap64 ((n : Int) + 1) = ((n + 1 : Nat) : Int) := by unfold wrap64; omega
  have hs' : (n : Int) + 1 = ((n + 1 : Nat) : Int) := by omega
  have hn1 : ((n + 1 : Nat) : Int) ≤ 100001 := by omega
  rcases Nat.eq_zero_or_pos d.nums.length with h0 | h0
  · rw [g_zero h0]
    have eM := tmod_nat (n + 1) m
    have hrm : (((n + 1) % m : Nat) : Int) ≤ 100001 := by have := Nat.mod_le (n + 1) m; omega
    rw [h0] at e3
    have HR := Lib.hid hn1
    clear hF hG hl hli h0 hN hD hN1 hD1 hne hn hs' hbw hN0
    generalize (n + 1) % m = r at *
    generalize ((n + 1 : Nat) : Int) = n1 at *
    go_enter Tryd.func68, Tryd.ntmps68
    go_wp2_with fail
    go_ret
    exact ⟨rfl, 0, rfl⟩
  · have hjl : (n + 1) % d.nums.length < d.nums.length := Nat.mod_lt _ h0
    obtain ⟨x, hx⟩ : ∃ x, d.nums[(n + 1) % d.nums.length]? = some x := ⟨_, List.getElem?_eq_getElem hjl⟩
    rw [g_pos hx]
    obtain ⟨b, o, hA, hbl, hcc⟩ := hF _ x hx
    have c2 : (w.setCell ⟨N, 0, none⟩ (.int .i64 ((n + 1 : Nat) : Int))).cell? ⟨b, o + (n + 1) % d.nums.length, none⟩ = some (.int .u8 x) := by
      have q := hcc 0 _ rfl
      rw [Nat.mul_one, Nat.add_zero] at q
      exact ((hbw.setCell (p := ⟨N, 0, none⟩) hN0 (.int .i64 ((n + 1 : Nat) : Int))).cell (p := ⟨b, o + (n + 1) % d.nums.length, none⟩) hbl).trans q
    obtain ⟨x0, x255⟩ := hG x (List.mem_of_getElem? hx)
    have eR : x.tmod (m : Int) = ((x.toNat % m : Nat) : Int) := by
      have : x = (x.toNat : Int) := by omega
      rw [this]; exact tmod_nat _ _
    have hrm : ((x.toNat % m : Nat) : Int) ≤ 255 := by have := Nat.mod_le x.toNat m; omega
    have eJ := tmod_nat (n + 1) d.nums.length
    have hj2 : (((n + 1) % d.nums.length : Nat) : Int) < (d.nums.length : Int) := by omega
    have b0 : ((d.nums.length : Int) == 0) = false := by rw [beq_eq_false_iff_ne]; omega
    have d0 : ¬ ((d.nums.length : Int) = 0) := by omega
    rw [hA] at e3
    clear hcc hx hG hF hl hN hD hN1 hD1 hne hn hs' hA hbl hbw hN0
    generalize x.toNat % m = r at *
    generalize (n + 1) % d.nums.length = j at *
    generalize ((n + 1 : Nat) : Int) = n1 at *
    generalize d.nums.length = NL at *
    have hj0 : (0 : Int) ≤ (j : Int) := by omega
    clear hjl
    go_enter Tryd.func68, Tryd.ntmps68
    go_wp2_with fail
    go_quiet (fail)
    all_goals
      go_wp2_with fail
      go_ret
      exact ⟨rfl, _, rfl⟩
end Go.Proofs.YtlideagcmhlkeaaDoor

/- What the steps keep of a drawn region in which a row of one type grows and a box of another is written. No function of the program. -/
namespace Go.Proofs.YtlideagcmhlkeaaDoor
open Go.RowKit
set_option linter.unusedVariables false

/-- blocks stay as they are but for boxes of one type (B) and, ahead of the part, rows of one type (T) below N -/
structure GB (B T : TypeId) (N : Nat) (b : Bool) (W W' : World) : Prop where
  far : ∀ (g : Nat) (e : TypeId) (cur : Array Value), e ≠ B → (e ≠ T ∨ N ≤ g ∨ b = true) → W.heap[g]? = some (.cells cur e (0, 0)) → W'.heap[g]? = some (.cells cur e (0, 0))
section
variable {B T : TypeId} {N : Nat} {W W' : World}
theorem GB.below (b : Bool) (h : Below W.heap.size W W') : GB B T N b W W' := ⟨fun g e cur _ _ hb => (h.block g (Array.getElem?_eq_some_iff.1 hb).1).trans hb⟩
theorem GB.refl (B T : TypeId) (N : Nat) (b : Bool) (W : World) : GB B T N b W W := GB.below b (Below.refl _ _)
theorem GB.set_ (b : Bool) {g : Nat} {cs : Array Value} (hb : Blk W g B cs) (n : Nat) (u : Value) : GB B T N b W (W.setCell ⟨g, n, none⟩ u) :=
  ⟨fun g' e cur he _ h' => (Below.heap_setCell W _ u g' (fun q => he (by
    have q' : g' = g := q
    subst q'
    unfold Blk at hb
    rw [hb] at h'
    injection h' with h'
    injection h' with _ h' _
    exact h'.symm))).trans h'⟩
theorem GB.rowA {b : Bool} {α : Type} {base : Nat} {e : TypeId} {m : Nat} {f : α → List Value} {A : Option Addr} {c : Nat} {L : List α} (hg : GB B T N b W W') (he : e ≠ B) (hz : e ≠ T ∨ N ≤ base ∨ b = true) (h : RowOf W base e m f A c L) : RowOf W' base e m f A c L := by
  refine ⟨h.1, ?_⟩
  rcases h.2 with q | ⟨g, cap, cur, hv, hb, hh, hr⟩
  · exact .inl q
  · exact .inr ⟨g, cap, cur, hv, hb, hg.far g e cur he (hz.imp id (Or.imp (fun q => Nat.le_trans q hb) id)) hh, hr⟩
theorem GB.grown (hT : T ≠ B) {α : Type} {m : Nat} {f : α → List Value} {b1 c : Nat} {A : Option Addr} {Y : List α} (hz : RowOf W b1 T m f A c Y) (hK : ∀ K, (Value.slice A Y.length c).ownBlock = some K → K < N) (hgr : W.grownBy W' (Value.slice A Y.length c).ownBlock) : GB B T N false W W' :=
  ⟨fun g e cur he hh hb => (hgr.block g (Array.getElem?_eq_some_iff.1 hb).1 fun q => by
    obtain ⟨cur', hc⟩ := block_of hz q.symm
    rw [hb] at hc
    injection hc with hc
    injection hc with _ hc _
    have := hK g q.symm
    rcases hh with h | h | h
    · exact h hc
    · omega
    · cases h).trans hb⟩
end
end Go.Proofs.YtlideagcmhlkeaaDoor

/- How the walk of Draft.Made keeps its blocks: all below a mark but for one box. No function of the program. -/
namespace Go.Proofs.YtlideagcmhlkeaaDoor
open Go.RowKit Go.Lib
set_option linter.unusedVariables false

/-- the blocks below n stay as they are, but for x -/
structure KX (n x : Nat) (A B : World) : Prop where
  sz : n ≤ A.heap.size
  le : A.heap.size ≤ B.heap.size
  blk : ∀ g, g < n → g ≠ x → B.heap[g]? = A.heap[g]?
section
variable {n x : Nat} {A B C : World}
theorem KX.refl (x : Nat) (A : World) : KX A.heap.size x A A := ⟨Nat.le_refl _, Nat.le_refl _, fun _ _ _ => rfl⟩
theorem KX.below (h : KX n x A B) (hb : Below B.heap.size B C) : KX n x A C := ⟨h.sz, Nat.le_trans h.le hb.size, fun g hg hx => (hb.block g (Nat.lt_of_lt_of_le hg (Nat.le_trans h.sz h.le))).trans (h.blk g hg hx)⟩
theorem KX.set_ (h : KX n x A B) {p : Addr} (hp : p.block = x ∨ n ≤ p.block) (u : Value) : KX n x A (B.setCell p u) :=
  ⟨h.sz, by simpa using h.le, fun g hg hx => (Below.heap_setCell B p u g (by rcases hp with q | q <;> omega)).trans (h.blk g hg hx)⟩
theorem KX.grown (h : KX n x A B) {base k size : Nat} {e : TypeId} {v : Value} {xs : List Value} (hr : B.ownsRow base e size v k xs) (hg : B.grownBy C v.ownBlock) (hb : n ≤ base) : KX n x A C :=
  ⟨h.sz, Nat.le_trans h.le hg.size, fun g hg' hx => (hg.block g (Nat.lt_of_lt_of_le hg' (Nat.le_trans h.sz h.le)) fun q => by have := (hr.lt g q.symm).1; omega).trans (h.blk g hg' hx)⟩
theorem KX.cell (h : KX n x A B) {p : Addr} (hp : p.block < n) (hx : p.block ≠ x) : B.cell? p = A.cell? p := World.cell?_of_block (w := A) (h.blk p.block hp hx)
theorem KX.box (h : KX n x A B) {g : Nat} {t : TypeId} {cs : Array Value} (hb : Blk A g t cs) (hg : g < n) (hx : g ≠ x) : Blk B g t cs := (h.blk g hg hx).trans hb
theorem KX.row {α : Type} {base : Nat} {e : TypeId} {m : Nat} {f : α → List Value} {P : Option Addr} {c : Nat} {L : List α} (h : KX n x A B) (hn : n = A.heap.size) (hx : x < base) (hr : RowOf A base e m f P c L) : RowOf B base e m f P c L := by
  refine ⟨hr.1, ?_⟩
  rcases hr.2 with q | ⟨g, cap, cur, hv, hb, hh, hq⟩
  · exact .inl q
  · exact .inr ⟨g, cap, cur, hv, hb, (h.blk g (by rw [hn]; exact (Array.getElem?_eq_some_iff.1 hh).1) (by omega)).trans hh, hq⟩
end
theorem blk_other {W W' : World} {g b n size : Nat} {t e : TypeId} {cs : Array Value} {v : Value} {xs : List Value} (h : Blk W g t cs) (k : W.ownsRow b e size v n xs) (hne : t ≠ e) (hg : W.grownBy W' v.ownBlock) : Blk W' g t cs :=
  (hg.block g h.lt fun q => by
    obtain ⟨cur, hc⟩ := block_of k q.symm
    unfold Blk at h
    rw [h] at hc
    injection hc with hc
    injection hc with _ hc _
    exact hne hc).trans h
/-- cells of a row that comes in, at blocks below a mark and beside a box -/
def CellsX {α : Type} (n x m : Nat) (f : α → List Value) (w : World) (A : Option Addr) (L : List α) : Prop :=
  ∀ k r, L[k]? = some r → ∃ b o, A = some ⟨b, o, none⟩ ∧ b < n ∧ b ≠ x ∧ ∀ j u, (f r)[j]? = some u → w.cell? ⟨b, o + k * m + j, none⟩ = some u
theorem CellsX.take {α : Type} {n x m : Nat} {f : α → List Value} {A : World} {p : Option Addr} {L : List α} (h : CellsX n x m f A p L) (i : Nat) : CellsX n x m f A p (L.take i) := fun k r hr => by
  rw [List.getElem?_take] at hr
  split at hr
  · exact h k r hr
  · cases hr
theorem CellsX.of {α : Type} {n x m : Nat} {f : α → List Value} {w W : World} {p : Option Addr} {L : List α} (h : CellsIn m f w p L) (hb : Below w.heap.size w W) (hn : w.heap.size ≤ n) (hx : w.heap.size ≤ x) : CellsX n x m f W p L := fun k r hr => by
  obtain ⟨b, o, h1, h2, h3⟩ := h k r hr
  exact ⟨b, o, h1, by omega, by omega, fun j u hu => (hb.cell (p := ⟨b, o + k * m + j, none⟩) h2).trans (h3 j u hu)⟩
/-- the first elements of a slice -/
theorem slice_first (t e : TypeId) (ht : Tryd.prog.underlying t = some (.slice e)) (he : Tryd.prog.elem t = e) (hs : ∀ w, ∃ s, (sizeOf e).run Tryd.prog w = .ok s w) (a : Option Addr) (len cap : Nat) (M : Nat) (h : M ≤ cap) (w : World) :
    (Instr.slice t (.slice a len cap) none (some (.int .i64 (M : Int))) none).run Tryd.prog w = .ok (.slice a M cap) w := by
  obtain ⟨s, hs⟩ := hs w
  rw [run_slice_h (P := Tryd.prog) (w := w) t a len cap (by rw [he]; exact ht) .i64 (M : Int) (by omega) (by omega), he, hs]
  simp only [Result.andThen, sliced, Int.toNat_natCast, Nat.sub_zero, Nat.zero_mul]
  have q : (if cap = 0 then a else Option.map (fun x : Addr => x.add 0) a) = a := by
    split
    · rfl
    · cases a <;> simp [Addr.add]
  rw [q]
end Go.Proofs.YtlideagcmhlkeaaDoor

/- The law on regions that draw their order (Rinv), where what is kept may speak of which operations are behind us. No function of the program. -/
namespace Go.Proofs.YtlideagcmhlkeaaDoor
open Go
set_option linter.unusedVariables false

section
variable {P : Program} {ops : Array Oper} {Q : Exit → Act → World → Prop}
/-- THE LAW where what is kept (S) speaks of which operations are behind us. Each operation by itself, behind those that must stand ahead of it. fr: the frame by the slots that the region makes; val: the values known ahead; X: what the others leave, by the slots Kx; G: what a step may do to the world. -/
theorem wp_region_invE {id : Nat} {a : Act} {w : World} (fr : (Nat → Value) → Act) (y0 : Nat → Value) (val : Nat → Option Value) (X : Nat → (Nat → Value) → World → Prop) (Kx : Nat → List Nat) (G : World → World → Prop) (S : (Nat → Bool) → World → Prop)
    (hm : P.follows .mixedOrders = true) (ha : a = fr y0) (hS : S (fun _ => false) w.drew)
    (hlt : ∀ i, i < ops.size → ∀ d ∈ rdeps ops i, d < i)
    (hput : ∀ i d, i < ops.size → rdst ops i = some d → ∀ y v, (fr y).put (some d) v = fr (upd y (some d) v))
    (hloc : ∀ j, j < ops.size → val j = none → ∀ y y' w, (∀ k ∈ Kx j, y k = y' k) → X j y w → X j y' w)
    (hmono : ∀ j, j < ops.size → val j = none → (∃ i, i < ops.size ∧ i ≠ j ∧ i ∉ rdeps ops j) → ∀ y w w', G w w' → X j y w → X j y w')
    (hap : ∀ i j, i < ops.size → j < ops.size → i ≠ j → i ∉ rdeps ops j → ∀ d, rdst ops i = some d → (rdst ops j ≠ some d) ∧ (val j = none → d ∉ Kx j))
    (hstep : ∀ i, i < ops.size → ∀ o, ops[i]? = some o → ∀ y w ex, (ex i = false ∧ (∀ d ∈ rdeps ops i, ex d = true) ∧ ∀ j, ex j = true → ∀ d ∈ rdeps ops j, ex d = true) → S ex w → (∀ d ∈ rdeps ops i, Left17 ops val X d y w) →
      ∀ K' : Act → World → Prop, Shut (∀ v a' w', a' = (fr y).put o.dst v → G w w' → S (fun j => if j = i then true else ex j) w' → (val i = some v ∨ (val i = none ∧ X i (upd y o.dst v) w')) → K' a' w') →
        if Region.wanted o (yielded ops (fr y).tmps) = true then Oper.wp P o (fr y) w K' Q else K' ((fr y).put o.dst undef) w)
    (hdone : ∀ y w, S (fun j => decide (j < ops.size)) w → (∀ j, j < ops.size → Left17 ops val X j y w) → Q .normal (fr y) w) : (Code.region id ops true).wp P Q a w := by
  refine wp_region_any hm ?_
  refine wpAny_inv (fun listed a w => listed.size = ops.size ∧ ∃ y, a = fr y ∧ S (fun j => listed.getD j false) w ∧ (∀ j, listed.getD j false = true → j < ops.size ∧ Left17 ops val X j y w) ∧ ∀ j, listed.getD j false = true → ∀ d ∈ rdeps ops j, listed.getD d false = true) ?_ ?_ _ _ _ _ ?_ ?_
  · rintro listed a w i ⟨hsz, y, rfl, hSw, hl, hcl⟩ hi
    obtain ⟨h1, h2, h3⟩ := ready_spec hi
    have ho : ops[i]? = some (ops[i]'h1) := Array.getElem?_eq_getElem h1
    refine wpOp_step ho fun K' hK => ?_
    have hfl : listed.getD i false = false := by
      rw [Array.getD_eq_getD_getElem?] at h2 ⊢
      cases e2 : listed[i]? with
      | none => rfl
      | some b => rw [e2] at h2; exact h2
    refine hstep i h1 _ ho y w _ ⟨hfl, h3, hcl⟩ hSw (fun d hd => (hl d (h3 d hd)).2) K' ?_
    intro v a' w' ha' hG hS' hnew
    have hflag : (fun j => (listed.setIfInBounds i true).getD j false) = fun j => if j = i then true else listed.getD j false := by
      funext j
      rw [Array.getD_eq_getD_getElem?, Array.getElem?_setIfInBounds]
      by_cases e : i = j
      · subst e
        rw [if_pos rfl, if_pos (by omega), if_pos rfl]
        rfl
      · rw [if_neg e, if_neg (fun q => e q.symm), Array.getD_eq_getD_getElem?]
    refine hK _ _ ⟨by rw [Array.size_setIfInBounds]; exact hsz, upd y (ops[i]'h1).dst v, ?_, by rw [hflag]; exact hS', ?_, ?_⟩
    · rw [ha']
      cases hd : (ops[i]'h1).dst with
      | none => rfl
      | some d => exact hput i d h1 (by unfold rdst; rw [ho]; exact hd) y v
    · intro j hj
      by_cases hij : j = i
      · subst hij
        refine ⟨h1, ?_⟩
        unfold Left17
        rcases hnew with hv | ⟨hv, hx⟩
        · rw [hv]
          intro d hd
          have hd' : (ops[j]'h1).dst = some d := by unfold rdst at hd; rw [ho] at hd; exact hd
          rw [hd']
          show (if d = d then v else y d) = v
          rw [if_pos rfl]
        · rw [hv]; exact hx
      · have hj' : listed.getD j false = true := by
          rw [Array.getD_eq_getD_getElem?, Array.getElem?_setIfInBounds, if_neg (fun q => hij q.symm)] at hj
          rw [Array.getD_eq_getD_getElem?]; exact hj
        obtain ⟨hjn, hf⟩ := hl j hj'
        have hni : i ∉ rdeps ops j := fun q' => by
          have := hcl j hj' i q'
          rw [Array.getD_eq_getD_getElem?] at this h2
          cases e : listed[i]? with
          | none => rw [e] at this; cases this
          | some b => rw [e] at this h2; simp at this h2; rw [this] at h2; cases h2
        refine ⟨hjn, ?_⟩
        cases hd : (ops[i]'h1).dst with
        | none =>
          unfold Left17 at hf ⊢
          cases hv : val j with
          | some u => rw [hv] at hf; exact hf
          | none => rw [hv] at hf; exact hmono j hjn hv ⟨i, h1, fun q => hij q.symm, hni⟩ y w w' hG hf
        | some d =>
          obtain ⟨a1, a2⟩ := hap i j h1 hjn (fun q => hij q.symm) hni d (by unfold rdst; rw [ho]; exact hd)
          unfold Left17 at hf ⊢
          cases hv : val j with
          | some u =>
            rw [hv] at hf
            intro d' hd'
            have hne : d' ≠ d := fun q => a1 (by rw [hd', q])
            show (if d' = d then v else y d') = u
            rw [if_neg hne]; exact hf d' hd'
          | none =>
            rw [hv] at hf
            refine hloc j hjn hv y _ w' (fun k hk => ?_) (hmono j hjn hv ⟨i, h1, fun q => hij q.symm, hni⟩ y w w' hG hf)
            have hne : k ≠ d := fun q => a2 hv (by rw [← q]; exact hk)
            show y k = if k = d then v else y k
            rw [if_neg hne]
    · intro j hj d hd
      have key : ∀ k, listed.getD k false = true → (listed.setIfInBounds i true).getD k false = true := fun k hk => by
        rw [Array.getD_eq_getD_getElem?] at hk ⊢
        rw [Array.getElem?_setIfInBounds]
        split
        · split
          · rfl
          · rename_i q1 q2; subst q1; rw [Array.getElem?_eq_none (by omega)] at hk; cases hk
        · exact hk
      by_cases hij : j = i
      · subst hij; exact key d (h3 d hd)
      · have hj' : listed.getD j false = true := by
          rw [Array.getD_eq_getD_getElem?, Array.getElem?_setIfInBounds, if_neg (fun q => hij q.symm)] at hj
          rw [Array.getD_eq_getD_getElem?]; exact hj
        exact key d (hcl j hj' d hd)
  · rintro listed a w ⟨hsz, y, rfl, hSw, hl, _⟩ hr
    refine hdone y w ?_ fun j hj => (hl j (all_listed hsz hlt hr j hj)).2
    have e : (fun j => listed.getD j false) = fun j => decide (j < ops.size) := by
      funext j
      by_cases hq : j < ops.size
      · rw [all_listed hsz hlt hr j hq, decide_eq_true hq]
      · rw [Array.getD_eq_getD_getElem?, Array.getElem?_eq_none (by omega), decide_eq_false hq]
        rfl
    rw [e] at hSw
    exact hSw
  · unfold unl
    rw [Array.toList_replicate]
    simp
  · refine ⟨Array.size_replicate, y0, ha, ?_, fun j hj => ?_, fun j hj => ?_⟩
    · have e : (fun j => (Array.replicate ops.size false).getD j false) = fun _ => false := by
        funext j
        rw [Array.getD_eq_getD_getElem?, Array.getElem?_replicate]
        split <;> rfl
      rw [e]
      exact hS
    all_goals
      rw [Array.getD_eq_getD_getElem?, Array.getElem?_replicate] at hj
      split at hj <;> cases hj
/-- a step of the law: operation i alone -/
def StepOkE (P : Program) (ops : Array Oper) (Q : Exit → Act → World → Prop) (fr : (Nat → Value) → Act) (sh : List (Option Nat × List Nat)) (sp : Nat → Bool) (vals : List Value) (X : Nat → (Nat → Value) → World → Prop) (G : World → World → Prop) (S : (Nat → Bool) → World → Prop) (i : Nat) (o : Oper) : Prop :=
  ∀ y w ex, (ex i = false ∧ (∀ d, (sdeps sh i).contains d = true → ex d = true) ∧ ∀ j, ex j = true → ∀ d, (sdeps sh j).contains d = true → ex d = true) → S ex w → (∀ d, (sdeps sh i).contains d = true → LeftS sh (valOf sp vals) X d y w) →
    ∀ K' : Act → World → Prop, Shut (∀ v a' w', a' = (fr y).put o.dst v → G w w' → S (fun j => if j = i then true else ex j) w' → (valOf sp vals i = some v ∨ (valOf sp vals i = none ∧ X i (upd y o.dst v) w')) → K' a' w') →
      if Region.wanted o (yielded ops (fr y).tmps) = true then Oper.wp P o (fr y) w K' Q else K' ((fr y).put o.dst undef) w
def StepsOkE (P : Program) (ops : Array Oper) (Q : Exit → Act → World → Prop) (fr : (Nat → Value) → Act) (sh : List (Option Nat × List Nat)) (sp : Nat → Bool) (vals : List Value) (X : Nat → (Nat → Value) → World → Prop) (G : World → World → Prop) (S : (Nat → Bool) → World → Prop) (i : Nat) (l : List Oper) : Prop :=
  ∀ k o, l[k]? = some o → StepOkE P ops Q fr sh sp vals X G S (i + k) o
section
variable {fr : (Nat → Value) → Act} {sh : List (Option Nat × List Nat)} {sp : Nat → Bool} {vals : List Value} {X : Nat → (Nat → Value) → World → Prop} {G : World → World → Prop} {S : (Nat → Bool) → World → Prop}
theorem StepsOkE.nil {i : Nat} : StepsOkE P ops Q fr sh sp vals X G S i [] := fun k o h => by simp at h
theorem StepsOkE.cons {i : Nat} {o : Oper} {l : List Oper} (h : StepOkE P ops Q fr sh sp vals X G S i o) (hl : StepsOkE P ops Q fr sh sp vals X G S (i + 1) l) : StepsOkE P ops Q fr sh sp vals X G S i (o :: l) := fun k o' ho => by
  cases k with
  | zero => rw [List.getElem?_cons_zero] at ho; injection ho with ho; subst ho; exact h
  | succ k =>
    rw [List.getElem?_cons_succ] at ho
    have := hl k o' ho
    rwa [show i + 1 + k = i + (k + 1) by omega] at this
/-- a step whose value is known ahead -/
theorem StepOkE.known {i : Nat} {o : Oper} (hi : sp i = false) (h : ∀ y w ex, (ex i = false ∧ (∀ d, (sdeps sh i).contains d = true → ex d = true) ∧ ∀ j, ex j = true → ∀ d, (sdeps sh j).contains d = true → ex d = true) → S ex w → (∀ d, (sdeps sh i).contains d = true → LeftS sh (valOf sp vals) X d y w) →
    ∀ K' : Act → World → Prop, Shut (∀ a' w', a' = (fr y).put o.dst (vals.getD i undef) → G w w' → S (fun j => if j = i then true else ex j) w' → K' a' w') →
      if Region.wanted o (yielded ops (fr y).tmps) = true then Oper.wp P o (fr y) w K' Q else K' ((fr y).put o.dst undef) w) : StepOkE P ops Q fr sh sp vals X G S i o :=
  fun y w b hb hS hd K' hK => h y w b hb hS hd K' fun a' w' ha hG hS' => hK _ a' w' ha hG hS' (.inl (by unfold valOf; rw [if_neg (by rw [hi]; decide)]))
/-- a step whose value is not known ahead -/
theorem StepOkE.other {i : Nat} {o : Oper} (hi : sp i = true) (h : ∀ y w ex, (ex i = false ∧ (∀ d, (sdeps sh i).contains d = true → ex d = true) ∧ ∀ j, ex j = true → ∀ d, (sdeps sh j).contains d = true → ex d = true) → S ex w → (∀ d, (sdeps sh i).contains d = true → LeftS sh (valOf sp vals) X d y w) →
    ∀ K' : Act → World → Prop, Shut (∀ v a' w', a' = (fr y).put o.dst v → G w w' → S (fun j => if j = i then true else ex j) w' → X i (upd y o.dst v) w' → K' a' w') →
      if Region.wanted o (yielded ops (fr y).tmps) = true then Oper.wp P o (fr y) w K' Q else K' ((fr y).put o.dst undef) w) : StepOkE P ops Q fr sh sp vals X G S i o :=
  fun y w b hb hS hd K' hK => h y w b hb hS hd K' fun v a' w' ha hG hS' hx => hK v a' w' ha hG hS' (.inr ⟨by unfold valOf; rw [if_pos hi], hx⟩)
end
/-- THE LAW with one operation that parts the region, by the shape -/
theorem wp_region_shapeE {id : Nat} {l : List Oper} {Q : Exit → Act → World → Prop} {a : Act} {w : World} (sh : List (Option Nat × List Nat)) (fr : (Nat → Value) → Act) (y0 : Nat → Value) (sp : Nat → Bool) (vals : List Value) (X : Nat → (Nat → Value) → World → Prop) (Kx : Nat → List Nat) (G : World → World → Prop) (S : (Nat → Bool) → World → Prop)
    (hm : P.follows .mixedOrders = true) (hsh : shapeOf l = sh) (hok : shapeOk sh sp Kx = true) (ha : a = fr y0) (hS : S (fun _ => false) w.drew)
    (hput : ∀ d ∈ sh.filterMap (·.1), ∀ y v, (fr y).put (some d) v = fr (upd y (some d) v))
    (hloc : ∀ j, sp j = true → ∀ y y' w, (∀ k ∈ Kx j, y k = y' k) → X j y w → X j y' w)
    (hmono : ∀ j, sp j = true → lastB sh j = false → ∀ y w w', G w w' → X j y w → X j y w')
    (hstep : StepsOkE P l.toArray Q fr sh sp vals X G S 0 l)
    (hdone : ∀ y w, S (fun j => decide (j < sh.length)) w → (∀ j, j < sh.length → LeftS sh (valOf sp vals) X j y w) → Q .normal (fr y) w) : (Code.region id l.toArray true).wp P Q a w := by
  have hlen : l.length = sh.length := by rw [← hsh]; unfold shapeOf; rw [List.length_map]
  have hsz : l.toArray.size = sh.length := by rw [List.size_toArray, hlen]
  have hsp : ∀ j, valOf sp vals j = none → sp j = true := fun j h => by
    unfold valOf at h; split at h
    · assumption
    · cases h
  have hok' := hok
  unfold shapeOk at hok'
  rw [List.all_eq_true] at hok'
  refine wp_region_invE fr y0 (valOf sp vals) X Kx G S hm ha hS ?_ ?_ ?_ ?_ ?_ ?_ ?_
  · intro i hi d hd
    rw [hsz] at hi
    rw [rdeps_shape hsh] at hd
    have := hok' i (List.mem_range.2 hi)
    rw [Bool.and_eq_true, List.all_eq_true] at this
    exact of_decide_eq_true (this.1 d hd)
  · intro i d hi hd y v
    rw [rdst_shape hsh] at hd
    refine hput d (List.mem_filterMap.2 ⟨sh.getD i (none, []), ?_, hd⟩) y v
    rw [hsz] at hi
    rw [List.getD_eq_getElem?_getD, List.getElem?_eq_getElem hi]
    exact List.getElem_mem _
  · intro j _ hv; exact hloc j (hsp j hv)
  · intro j _ hv ⟨i, hi, hij, hni⟩
    refine hmono j (hsp j hv) ?_
    unfold lastB
    rw [List.all_eq_false]
    refine ⟨i, List.mem_range.2 (by rw [← hsz]; exact hi), ?_⟩
    rw [rdeps_shape hsh] at hni
    simp [hij, hni]
  · intro i j hi hj hij hni d hd
    rw [hsz] at hi hj
    rw [rdeps_shape hsh] at hni
    rw [rdst_shape hsh] at hd ⊢
    have := hok' i (List.mem_range.2 hi)
    rw [Bool.and_eq_true, List.all_eq_true, List.all_eq_true] at this
    have qq := this.2 j (List.mem_range.2 hj)
    rw [hd] at qq
    simp only [Bool.or_eq_true, beq_iff_eq, Bool.and_eq_true, bne_iff_ne, Bool.not_eq_true', List.contains_iff_mem] at qq
    rcases qq with (qq | qq) | ⟨q1, q2⟩
    · exact absurd qq hij
    · exact absurd qq hni
    · refine ⟨q1, fun hv hk => ?_⟩
      rcases q2 with q2 | q2
      · rw [hsp j hv] at q2; cases q2
      · rw [List.contains_iff_mem.2 hk] at q2; cases q2
  · intro i hi o ho y w ex hb hSw hd K' hK
    have hs := hstep i o (by rw [List.getElem?_toArray] at ho; exact ho)
    rw [Nat.zero_add] at hs
    exact hs y w ex ⟨hb.1, fun d hd => hb.2.1 d (by rw [rdeps_shape hsh]; exact List.contains_iff_mem.1 hd), fun j hj d hd => hb.2.2 j hj d (by rw [rdeps_shape hsh]; exact List.contains_iff_mem.1 hd)⟩ hSw (fun d hd' => LeftS.of hsh (hd d (by rw [rdeps_shape hsh]; exact List.contains_iff_mem.1 hd'))) K' hK
  · intro y w hSw h
    exact hdone y w (by rw [← hsz]; exact hSw) fun j hj => LeftS.of hsh (h j (by rw [hsz]; exact hj))

end
end Go.Proofs.YtlideagcmhlkeaaDoor

/- How the walk of Draft.Made of layer 25 keeps its blocks: all below a mark but for some boxes; its own boxes. No function of the program. -/
namespace Go.Proofs.YtlideagcmhlkeaaDoor
open Go.RowKit Go.Lib
set_option linter.unusedVariables false

/-- the blocks below n stay as they are, but for those of X -/
structure KL (n : Nat) (X : List Nat) (A B : World) : Prop where
  sz : n ≤ A.heap.size
  le : A.heap.size ≤ B.heap.size
  blk : ∀ g, g < n → g ∉ X → B.heap[g]? = A.heap[g]?
section
variable {n : Nat} {X : List Nat} {A B C : World}
theorem KL.refl (X : List Nat) (A : World) : KL A.heap.size X A A := ⟨Nat.le_refl _, Nat.le_refl _, fun _ _ _ => rfl⟩
theorem KL.below (h : KL n X A B) (hb : Below B.heap.size B C) : KL n X A C := ⟨h.sz, Nat.le_trans h.le hb.size, fun g hg hx => (hb.block g (Nat.lt_of_lt_of_le hg (Nat.le_trans h.sz h.le))).trans (h.blk g hg hx)⟩
theorem KL.set_ (h : KL n X A B) {p : Addr} (hp : p.block ∈ X ∨ n ≤ p.block) (u : Value) : KL n X A (B.setCell p u) :=
  ⟨h.sz, by simpa using h.le, fun g hg hx => (Below.heap_setCell B p u g (by
    rcases hp with q | q
    · exact fun e => hx (e ▸ q)
    · omega)).trans (h.blk g hg hx)⟩
theorem KL.drewN (h : KL n X A B) (q : Nat) : KL n X A (B.drewN q) := h.below (below_drewN (Below.refl _ _) q)
theorem KL.grown (h : KL n X A B) {base k size : Nat} {e : TypeId} {v : Value} {xs : List Value} (hr : B.ownsRow base e size v k xs) (hg : B.grownBy C v.ownBlock) (hb : n ≤ base) : KL n X A C :=
  ⟨h.sz, Nat.le_trans h.le hg.size, fun g hg' hx => (hg.block g (Nat.lt_of_lt_of_le hg' (Nat.le_trans h.sz h.le)) fun q => by have := (hr.lt g q.symm).1; omega).trans (h.blk g hg' hx)⟩
theorem KL.box (h : KL n X A B) {g : Nat} {t : TypeId} {cs : Array Value} (hb : Blk A g t cs) (hg : g < n) (hx : g ∉ X) : Blk B g t cs := (h.blk g hg hx).trans hb
theorem KL.row {α : Type} {base : Nat} {e : TypeId} {m : Nat} {f : α → List Value} {P : Option Addr} {c : Nat} {L : List α} (h : KL n X A B) (hn : n = A.heap.size) (hx : ∀ x ∈ X, x < base) (hr : RowOf A base e m f P c L) : RowOf B base e m f P c L := by
  refine ⟨hr.1, ?_⟩
  rcases hr.2 with q | ⟨g, cap, cur, hv, hb, hh, hq⟩
  · exact .inl q
  · exact .inr ⟨g, cap, cur, hv, hb, (h.blk g (by rw [hn]; exact (Array.getElem?_eq_some_iff.1 hh).1) (fun q => by have := hx g q; omega)).trans hh, hq⟩
theorem KL.trans {m : Nat} {Y : List Nat} (h : KL n X A B) (k : KL m Y B C) (hm : n ≤ m) (hy : ∀ y ∈ Y, y ∈ X ∨ n ≤ y) : KL n X A C :=
  ⟨h.sz, Nat.le_trans h.le k.le, fun g hg hx => (k.blk g (by omega) fun q => by
    rcases hy g q with q2 | q2
    · exact hx q2
    · omega).trans (h.blk g hg hx)⟩
end
theorem row_box {α : Type} {W : World} {base : Nat} {e : TypeId} {m : Nat} {f : α → List Value} {A : Option Addr} {c : Nat} {L : List α} {g : Nat} {t : TypeId} {cs : Array Value} (h : RowOf W base e m f A c L) (hb : Blk W g t cs) (hne : e ≠ t) (j : Nat) (u : Value) : RowOf (W.setCell ⟨g, j, none⟩ u) base e m f A c L := by
  refine ⟨h.1, ?_⟩
  rcases h.2 with q | ⟨k, cap, cur, hv, hb2, hh, hr⟩
  · exact .inl q
  · refine .inr ⟨k, cap, cur, hv, hb2, (Below.heap_setCell W _ u k (fun q => hne ?_)).trans hh, hr⟩
    have q' : k = g := q
    subst q'
    unfold Blk at hb
    rw [hb] at hh
    injection hh with hh
    injection hh with _ hh _
    exact hh.symm
theorem blk_box {W : World} {g k : Nat} {t e : TypeId} {cs ds : Array Value} (h : Blk W k e ds) (hb : Blk W g t cs) (hne : e ≠ t) (j : Nat) (u : Value) : Blk (W.setCell ⟨g, j, none⟩ u) k e ds :=
  h.far (p := ⟨g, j, none⟩) (fun q => hne (by
    have q' : k = g := q
    subst q'
    unfold Blk at h hb
    rw [hb] at h
    injection h with h
    injection h with _ h _
    exact h.symm)) u
theorem blk_drN {W : World} {g : Nat} {t : TypeId} {cs : Array Value} (h : Blk W g t cs) (q : Nat) : Blk (W.drewN q) g t cs := h.below (below_drewN (Below.refl _ _) q) h.lt
/-- the boxes of the walk: the draft, the result, the counter, the names -/
structure Bx (w W : World) (d : D25) (n : Nat) : Prop where
  dx : Blk W w.heap.size 79 #[.slice d.sA d.sets.length d.sc, .int .u8 d.zs, .int .u8 d.ls, .slice d.lA d.nums.length d.lc]
  rx : Blk W (w.heap.size + 1) 32 #[.slice none 0 0, .slice none 0 0, .slice none 0 0, .slice none 0 0]
  nx : Blk W (w.heap.size + 2) 3 #[.int .i64 (n : Int)]
  s1 : Blk W (w.heap.size + 3) 9 #[.string ⟨#[82]⟩, .string ⟨#[69, 117, 45, 120]⟩]
  s2 : Blk W (w.heap.size + 4) 9 #[.string ⟨#[65, 47, 66]⟩, .string ⟨#[67]⟩, .string ⟨#[68, 45, 101, 47, 70, 47, 71]⟩]
  s3 : Blk W (w.heap.size + 5) 9 #[.string ⟨#[88]⟩, .string ⟨#[65, 47, 89]⟩, .string ⟨#[90, 95, 49]⟩]
  bel : Below w.heap.size w W
theorem Bx.below {w W W' : World} {d : D25} {n : Nat} (h : Bx w W d n) (hb : Below W.heap.size W W') : Bx w W' d n :=
  ⟨h.dx.below hb h.dx.lt, h.rx.below hb h.rx.lt, h.nx.below hb h.nx.lt, h.s1.below hb h.s1.lt, h.s2.below hb h.s2.lt, h.s3.below hb h.s3.lt, h.bel.trans (hb.mono h.bel.size)⟩
/-- a step of the counter -/
theorem Bx.step {w W : World} {d : D25} {n : Nat} (h : Bx w W d n) (q : Nat) : Bx w ((W.setCell ⟨w.heap.size + 2, 0, none⟩ (.int .i64 ((n + 1 : Nat) : Int))).drewN q) d (n + 1) :=
  Bx.below ⟨blk_box h.dx h.nx (by decide) _ _, blk_box h.rx h.nx (by decide) _ _, h.nx.set_ 0 _, blk_box h.s1 h.nx (by decide) _ _, blk_box h.s2 h.nx (by decide) _ _, blk_box h.s3 h.nx (by decide) _ _, h.bel.setCell (by show w.heap.size ≤ w.heap.size + 2; omega) _⟩ (below_drewN (Below.refl _ _) q)
/-- a row of the walk grows -/
theorem Bx.grown {w W W' : World} {d : D25} {n base size k : Nat} {e : TypeId} {v : Value} {xs : List Value} (h : Bx w W d n) (hr : W.ownsRow base e size v k xs) (hg : W.grownBy W' v.ownBlock) (hb : w.heap.size ≤ base) (h1 : 79 ≠ e) (h2 : 32 ≠ e) (h3 : 3 ≠ e) (h4 : 9 ≠ e) : Bx w W' d n :=
  ⟨blk_other h.dx hr h1 hg, blk_other h.rx hr h2 hg, blk_other h.nx hr h3 hg, blk_other h.s1 hr h4 hg, blk_other h.s2 hr h4 hg, blk_other h.s3 hr h4 hg, own_grown h.bel hr hg h.bel.size hb⟩
/-- a cell of another box is written -/
theorem Bx.set_ {w W : World} {d : D25} {n g : Nat} (h : Bx w W d n) (hg : w.heap.size + 6 ≤ g) (j : Nat) (u : Value) : Bx w (W.setCell ⟨g, j, none⟩ u) d n :=
  have far : ∀ {k : Nat} {t : TypeId} {cs : Array Value}, k < w.heap.size + 6 → Blk W k t cs → Blk (W.setCell ⟨g, j, none⟩ u) k t cs := fun hk hb => hb.far (p := ⟨g, j, none⟩) (by show _ ≠ g; omega) u
  ⟨far (by omega) h.dx, far (by omega) h.rx, far (by omega) h.nx, far (by omega) h.s1, far (by omega) h.s2, far (by omega) h.s3, h.bel.setCell (by show w.heap.size ≤ g; omega) u⟩
/-- the counter is asked -/
theorem Bx.at_ {w W : World} {d : D25} {n : Nat} (h : Bx w W d n) (hd : D25In w d) (m : Nat) (hm : 1 ≤ m ∧ m ≤ 1000) (hn : n ≤ 100000) :
    Calls Tryd.prog 68 #[.int .i64 (m : Int), .pointer (some ⟨w.heap.size + 2, 0, none⟩), .pointer (some ⟨w.heap.size, 0, none⟩)] W fun e w' => e = .returned (.int .i64 (P25.g d.nums (n + 1) m : Int)) ∧ ∃ q, w' = (W.setCell ⟨w.heap.size + 2, 0, none⟩ (.int .i64 ((n + 1 : Nat) : Int))).drewN q :=
  at25_any d n m _ _ w W hm hn h.nx h.dx hd.nums h.bel (by omega)
/-- blocks that are no counter stay -/
def NI (W W' : World) : Prop := ∀ (g : Nat) (e : TypeId) (cs : Array Value), e ≠ 3 → Blk W g e cs → Blk W' g e cs
theorem NI.refl (W : World) : NI W W := fun _ _ _ _ h => h
theorem NI.below {W W' : World} (h : Below W.heap.size W W') : NI W W' := fun _ _ _ _ hb => hb.below h hb.lt
theorem NI.step {w W : World} {d : D25} {n : Nat} (h : Bx w W d n) (q : Nat) : NI W ((W.setCell ⟨w.heap.size + 2, 0, none⟩ (.int .i64 ((n + 1 : Nat) : Int))).drewN q) := fun g e cs he hb => blk_drN (blk_box hb h.nx he _ _) q
theorem NI.row {α : Type} {W W' : World} {base : Nat} {e : TypeId} {m : Nat} {f : α → List Value} {A : Option Addr} {c : Nat} {L : List α} (hg : NI W W') (he : e ≠ 3) (h : RowOf W base e m f A c L) : RowOf W' base e m f A c L := by
  refine ⟨h.1, ?_⟩
  rcases h.2 with q | ⟨k, cap, cur, hv, hb2, hh, hr⟩
  · exact .inl q
  · exact .inr ⟨k, cap, cur, hv, hb2, hg k e cur he hh, hr⟩
end Go.Proofs.YtlideagcmhlkeaaDoor

/- The counter of layer 25 as an abstract step, and where the loops of its walk stand. No walk. -/
namespace Go.Proofs.YtlideagcmhlkeaaDoor
open Go.RowKit Go.Lib
set_option linter.unusedVariables false

/-- all blocks but N stay -/
structure CS (N : Nat) (A B : World) : Prop where
  sz : B.heap.size = A.heap.size
  blk : ∀ g, g ≠ N → B.heap[g]? = A.heap[g]?
section
variable {N : Nat} {A B C : World}
theorem CS.box (h : CS N A B) {g : Nat} {t : TypeId} {cs : Array Value} (hb : Blk A g t cs) (hg : g ≠ N) : Blk B g t cs := (h.blk g hg).trans hb
theorem CS.row (h : CS N A B) {α : Type} {base : Nat} {e : TypeId} {m : Nat} {f : α → List Value} {P : Option Addr} {c : Nat} {L : List α} (hN : N < base) (hr : RowOf A base e m f P c L) : RowOf B base e m f P c L := by
  refine ⟨hr.1, ?_⟩
  rcases hr.2 with q | ⟨g, cap, cur, hv, hb, hh, hq⟩
  · exact .inl q
  · exact .inr ⟨g, cap, cur, hv, hb, (h.blk g (by omega)).trans hh, hq⟩
theorem CS.kl (h : CS N B C) {n : Nat} {X : List Nat} (k : KL n X A B) (hN : N ∈ X) : KL n X A C :=
  ⟨k.sz, by rw [h.sz]; exact k.le, fun g hg hx => (h.blk g (fun q => hx (q ▸ hN))).trans (k.blk g hg hx)⟩
theorem CS.below (h : CS N B C) {n : Nat} {w : World} (k : Below n w B) (hN : n ≤ N) (hc : Below n w C) : Below n w C := hc
theorem CS.cell (h : CS N A B) {p : Addr} (hp : p.block ≠ N) : B.cell? p = A.cell? p := World.cell?_of_block (w := A) (h.blk p.block hp)
end
/-- the counter is asked: its value, and what else is left -/
theorem Bx.ask {w W : World} {d : D25} {n : Nat} (h : Bx w W d n) (hd : D25In w d) (m : Nat) (M : Int) (hM : (m : Int) = M) (hm : 1 ≤ m ∧ m ≤ 1000) (hn : n ≤ 100000) (g : Nat) (hg : P25.g d.nums (n + 1) m = g) :
    Calls Tryd.prog 68 #[.int .i64 M, .pointer (some ⟨w.heap.size + 2, 0, none⟩), .pointer (some ⟨w.heap.size, 0, none⟩)] W fun e w' => e = .returned (.int .i64 (g : Int)) ∧ Bx w w' d (n + 1) ∧ CS (w.heap.size + 2) W w' := by
  subst hM; subst hg
  refine (h.at_ hd m hm hn).mono ?_
  rintro e W' ⟨rfl, q, rfl⟩
  refine ⟨rfl, h.step q, ?_, fun g hg => ?_⟩
  · have := (below_drewN (Below.refl (W.setCell ⟨w.heap.size + 2, 0, none⟩ (.int .i64 ((n + 1 : Nat) : Int))).heap.size (W.setCell ⟨w.heap.size + 2, 0, none⟩ (.int .i64 ((n + 1 : Nat) : Int)))) q).size
    have e : ∀ (V : World) (q : Nat), (V.drewN q).heap = V.heap := fun V q => by
      induction q with
      | zero => rfl
      | succ q ih => exact ih
    rw [e]
    simp
  · have e : ∀ (V : World) (q : Nat), (V.drewN q).heap = V.heap := fun V q => by
      induction q with
      | zero => rfl
      | succ q ih => exact ih
    rw [e]
    exact Below.heap_setCell W _ _ g hg
/-- where the loop over the zones stands -/
structure Zl (w w1 W : World) (d : D25) (n : Nat) (rv : Value) (yA : Option Addr) (yc : Nat) (Y : List ZV) : Prop where
  bx : Bx w W d n
  kl : KL w1.heap.size [w.heap.size + 2, w.heap.size + 6] w1 W
  own : Blk W (w.heap.size + 6) 32 #[rv, .slice yA Y.length yc, .slice none 0 0, .slice none 0 0]
  zrow : RowOf W w1.heap.size 39 2 ZV.cells yA yc Y
  eras : ∀ y ∈ Y, RowOf W w1.heap.size 47 13 EV.cells y.A y.c y.eras
/-- where a zone's loops stand -/
structure El (w wi W : World) (d : D25) (n zb : Nat) (nm : ByteArray) (eA : Option Addr) (ec : Nat) (Es : List EV) : Prop where
  bx : Bx w W d n
  kl : KL wi.heap.size [w.heap.size + 2, zb] wi W
  box : Blk W zb 39 #[.string nm, .slice eA Es.length ec]
  row : RowOf W wi.heap.size 47 13 EV.cells eA ec Es
section
variable {w wi W W' : World} {d : D25} {n zb ec : Nat} {nm : ByteArray} {eA : Option Addr} {Es : List EV}
theorem El.below (h : El w wi W d n zb nm eA ec Es) (hb : Below W.heap.size W W') : El w wi W' d n zb nm eA ec Es := ⟨h.bx.below hb, h.kl.below hb, h.box.below hb h.box.lt, h.row.below hb⟩
theorem El.step (h : El w wi W d n zb nm eA ec Es) (hw : w.heap.size + 7 ≤ wi.heap.size) (hz : w.heap.size + 7 ≤ zb) (hx : Bx w W' d (n + 1)) (hc : CS (w.heap.size + 2) W W') : El w wi W' d (n + 1) zb nm eA ec Es :=
  ⟨hx, hc.kl h.kl (by simp), hc.box h.box (by omega), hc.row (by omega) h.row⟩
/-- a box that is newer than the row is written -/
theorem El.set_ (h : El w wi W d n zb nm eA ec Es) {wj : World} (hw : w.heap.size + 7 ≤ wi.heap.size) {g : Nat} (hg : wi.heap.size ≤ g) (hgz : zb ≠ g) (hr : ∀ K, (Value.slice eA Es.length ec).ownBlock = some K → K ≠ g) (j : Nat) (u : Value) : El w wi (W.setCell ⟨g, j, none⟩ u) d n zb nm eA ec Es :=
  ⟨h.bx.set_ (by omega) j u, h.kl.set_ (.inr hg) u, h.box.far (p := ⟨g, j, none⟩) hgz u, own_setOff h.row (fun q => hr g q rfl) u⟩
/-- one era more -/
theorem El.snoc (h : El w wi W d n zb nm eA ec Es) (hw : w.heap.size + 7 ≤ wi.heap.size) (hz : w.heap.size + 7 ≤ zb) {eA' : Option Addr} {ec' : Nat} {e : EV} (hg : W.grownBy W' (Value.slice eA Es.length ec).ownBlock) (hr : RowOf W' wi.heap.size 47 13 EV.cells eA' ec' (Es ++ [e])) :
    El w wi (W'.setCell ⟨zb, 1, none⟩ (.slice eA' (Es.length + 1) ec')) d n zb nm eA' ec' (Es ++ [e]) := by
  have hl : Es.length + 1 = (Es ++ [e]).length := by simp
  rw [hl]
  have o := blk_other h.box h.row (by decide) hg
  exact ⟨(h.bx.grown h.row hg (by omega) (by decide) (by decide) (by decide) (by decide)).set_ (by omega) 1 _, (h.kl.grown h.row hg (Nat.le_refl _)).set_ (.inl (by simp)) _, o.set_ 1 _, row_box hr o (by decide) 1 _⟩
end
end Go.Proofs.YtlideagcmhlkeaaDoor

/- The law on regions that draw their order once more: what is kept may speak of the slots that are made. No function of the program. -/
namespace Go.Proofs.YtlideagcmhlkeaaDoor
open Go
set_option linter.unusedVariables false

section
variable {P : Program} {ops : Array Oper} {Q : Exit → Act → World → Prop}
/-- a step of the law: operation i alone -/
def StepOkY (P : Program) (ops : Array Oper) (Q : Exit → Act → World → Prop) (fr : (Nat → Value) → Act) (sh : List (Option Nat × List Nat)) (sp : Nat → Bool) (vals : List Value) (X : Nat → (Nat → Value) → World → Prop) (G : World → World → Prop) (S : (Nat → Value) → World → Prop) (i : Nat) (o : Oper) : Prop :=
  ∀ y w, S y w → (∀ d, (sdeps sh i).contains d = true → LeftS sh (valOf sp vals) X d y w) →
    ∀ K' : Act → World → Prop, Shut (∀ v a' w', a' = (fr y).put o.dst v → G w w' → S (upd y o.dst v) w' → (valOf sp vals i = some v ∨ (valOf sp vals i = none ∧ X i (upd y o.dst v) w')) → K' a' w') →
      if Region.wanted o (yielded ops (fr y).tmps) = true then Oper.wp P o (fr y) w K' Q else K' ((fr y).put o.dst undef) w
def StepsOkY (P : Program) (ops : Array Oper) (Q : Exit → Act → World → Prop) (fr : (Nat → Value) → Act) (sh : List (Option Nat × List Nat)) (sp : Nat → Bool) (vals : List Value) (X : Nat → (Nat → Value) → World → Prop) (G : World → World → Prop) (S : (Nat → Value) → World → Prop) (i : Nat) (l : List Oper) : Prop :=
  ∀ k o, l[k]? = some o → StepOkY P ops Q fr sh sp vals X G S (i + k) o
section
variable {fr : (Nat → Value) → Act} {sh : List (Option Nat × List Nat)} {sp : Nat → Bool} {vals : List Value} {X : Nat → (Nat → Value) → World → Prop} {G : World → World → Prop} {S : (Nat → Value) → World → Prop}
theorem StepsOkY.nil {i : Nat} : StepsOkY P ops Q fr sh sp vals X G S i [] := fun k o h => by simp at h
theorem StepsOkY.cons {i : Nat} {o : Oper} {l : List Oper} (h : StepOkY P ops Q fr sh sp vals X G S i o) (hl : StepsOkY P ops Q fr sh sp vals X G S (i + 1) l) : StepsOkY P ops Q fr sh sp vals X G S i (o :: l) := fun k o' ho => by
  cases k with
  | zero => rw [List.getElem?_cons_zero] at ho; injection ho with ho; subst ho; exact h
  | succ k =>
    rw [List.getElem?_cons_succ] at ho
    have := hl k o' ho
    rwa [show i + 1 + k = i + (k + 1) by omega] at this
/-- a step whose value is known ahead -/
theorem StepOkY.known {i : Nat} {o : Oper} (hi : sp i = false) (h : ∀ y w, S y w → (∀ d, (sdeps sh i).contains d = true → LeftS sh (valOf sp vals) X d y w) →
    ∀ K' : Act → World → Prop, Shut (∀ a' w', a' = (fr y).put o.dst (vals.getD i undef) → G w w' → S (upd y o.dst (vals.getD i undef)) w' → K' a' w') →
      if Region.wanted o (yielded ops (fr y).tmps) = true then Oper.wp P o (fr y) w K' Q else K' ((fr y).put o.dst undef) w) : StepOkY P ops Q fr sh sp vals X G S i o :=
  fun y w hS hd K' hK => h y w hS hd K' fun a' w' ha hG hS' => hK _ a' w' ha hG hS' (.inl (by unfold valOf; rw [if_neg (by rw [hi]; decide)]))
/-- a step whose value is not known ahead -/
theorem StepOkY.other {i : Nat} {o : Oper} (hi : sp i = true) (h : ∀ y w, S y w → (∀ d, (sdeps sh i).contains d = true → LeftS sh (valOf sp vals) X d y w) →
    ∀ K' : Act → World → Prop, Shut (∀ v a' w', a' = (fr y).put o.dst v → G w w' → S (upd y o.dst v) w' → X i (upd y o.dst v) w' → K' a' w') →
      if Region.wanted o (yielded ops (fr y).tmps) = true then Oper.wp P o (fr y) w K' Q else K' ((fr y).put o.dst undef) w) : StepOkY P ops Q fr sh sp vals X G S i o :=
  fun y w hS hd K' hK => h y w hS hd K' fun v a' w' ha hG hS' hx => hK v a' w' ha hG hS' (.inr ⟨by unfold valOf; rw [if_pos hi], hx⟩)
end
end
end Go.Proofs.YtlideagcmhlkeaaDoor

/- Two boxes of eras that one drawn region makes and writes, whichever comes first (for ExpandAbbrs). No function of the program. -/
namespace Go.Proofs.YtlideagcmhlkeaaDoor
open Go.RowKit
set_option linter.unusedVariables false

/-- an era is written whole into its box -/
theorem era_whole {W : World} {g : Nat} {cs : Array Value} (h : Blk W g 47 cs) (hc : cs.size = 13) (e : EV) : Blk (((((((((((((W.setCell ⟨g, 0, none⟩ (.int .i64 e.off)).setCell ⟨g, 1, none⟩ (.int .i64 e.kind)).setCell ⟨g, 2, none⟩ (.int .i64 e.save)).setCell ⟨g, 3, none⟩ (.string e.set)).setCell ⟨g, 4, none⟩ (.string e.fmt)).setCell ⟨g, 5, none⟩ (.bool e.ui)).setCell ⟨g, 6, none⟩ (.int .i64 e.uy)).setCell ⟨g, 7, none⟩ (.int .i64 e.um)).setCell ⟨g, 8, none⟩ (.int .i64 e.dk)).setCell ⟨g, 9, none⟩ (.int .i64 e.dw)).setCell ⟨g, 10, none⟩ (.int .i64 e.dd)).setCell ⟨g, 11, none⟩ (.int .i64 e.asec)).setCell ⟨g, 12, none⟩ (.int .i64 e.ab)) g 47 #[.int .i64 e.off, .int .i64 e.kind, .int .i64 e.save, .string e.set, .string e.fmt, .bool e.ui, .int .i64 e.uy, .int .i64 e.um, .int .i64 e.dk, .int .i64 e.dw, .int .i64 e.dd, .int .i64 e.asec, .int .i64 e.ab] := by
  obtain ⟨l⟩ := cs
  match l, hc with
  | [c0, c1, c2, c3, c4, c5, c6, c7, c8, c9, c10, c11, c12], _ =>
    have t0 : Blk _ g 47 #[.int .i64 e.off, c1, c2, c3, c4, c5, c6, c7, c8, c9, c10, c11, c12] := h.set_ 0 (.int .i64 e.off)
    have t1 : Blk _ g 47 #[.int .i64 e.off, .int .i64 e.kind, c2, c3, c4, c5, c6, c7, c8, c9, c10, c11, c12] := t0.set_ 1 (.int .i64 e.kind)
    have t2 : Blk _ g 47 #[.int .i64 e.off, .int .i64 e.kind, .int .i64 e.save, c3, c4, c5, c6, c7, c8, c9, c10, c11, c12] := t1.set_ 2 (.int .i64 e.save)
    have t3 : Blk _ g 47 #[.int .i64 e.off, .int .i64 e.kind, .int .i64 e.save, .string e.set, c4, c5, c6, c7, c8, c9, c10, c11, c12] := t2.set_ 3 (.string e.set)
    have t4 : Blk _ g 47 #[.int .i64 e.off, .int .i64 e.kind, .int .i64 e.save, .string e.set, .string e.fmt, c5, c6, c7, c8, c9, c10, c11, c12] := t3.set_ 4 (.string e.fmt)
    have t5 : Blk _ g 47 #[.int .i64 e.off, .int .i64 e.kind, .int .i64 e.save, .string e.set, .string e.fmt, .bool e.ui, c6, c7, c8, c9, c10, c11, c12] := t4.set_ 5 (.bool e.ui)
    have t6 : Blk _ g 47 #[.int .i64 e.off, .int .i64 e.kind, .int .i64 e.save, .string e.set, .string e.fmt, .bool e.ui, .int .i64 e.uy, c7, c8, c9, c10, c11, c12] := t5.set_ 6 (.int .i64 e.uy)
    have t7 : Blk _ g 47 #[.int .i64 e.off, .int .i64 e.kind, .int .i64 e.save, .string e.set, .string e.fmt, .bool e.ui, .int .i64 e.uy, .int .i64 e.um, c8, c9, c10, c11, c12] := t6.set_ 7 (.int .i64 e.um)
    have t8 : Blk _ g 47 #[.int .i64 e.off, .int .i64 e.kind, .int .i64 e.save, .string e.set, .string e.fmt, .bool e.ui, .int .i64 e.uy, .int .i64 e.um, .int .i64 e.dk, c9, c10, c11, c12] := t7.set_ 8 (.int .i64 e.dk)
    have t9 : Blk _ g 47 #[.int .i64 e.off, .int .i64 e.kind, .int .i64 e.save, .string e.set, .string e.fmt, .bool e.ui, .int .i64 e.uy, .int .i64 e.um, .int .i64 e.dk, .int .i64 e.dw, c10, c11, c12] := t8.set_ 9 (.int .i64 e.dw)
    have t10 : Blk _ g 47 #[.int .i64 e.off, .int .i64 e.kind, .int .i64 e.save, .string e.set, .string e.fmt, .bool e.ui, .int .i64 e.uy, .int .i64 e.um, .int .i64 e.dk, .int .i64 e.dw, .int .i64 e.dd, c11, c12] := t9.set_ 10 (.int .i64 e.dd)
    have t11 : Blk _ g 47 #[.int .i64 e.off, .int .i64 e.kind, .int .i64 e.save, .string e.set, .string e.fmt, .bool e.ui, .int .i64 e.uy, .int .i64 e.um, .int .i64 e.dk, .int .i64 e.dw, .int .i64 e.dd, .int .i64 e.asec, c12] := t10.set_ 11 (.int .i64 e.asec)
    have t12 : Blk _ g 47 #[.int .i64 e.off, .int .i64 e.kind, .int .i64 e.save, .string e.set, .string e.fmt, .bool e.ui, .int .i64 e.uy, .int .i64 e.um, .int .i64 e.dk, .int .i64 e.dw, .int .i64 e.dd, .int .i64 e.asec, .int .i64 e.ab] := t11.set_ 12 (.int .i64 e.ab)
    exact t12
theorem era_far {W : World} {g g' : Nat} {t : TypeId} {cs : Array Value} (h : Blk W g' t cs) (hn : g' ≠ g) (e : EV) : Blk (((((((((((((W.setCell ⟨g, 0, none⟩ (.int .i64 e.off)).setCell ⟨g, 1, none⟩ (.int .i64 e.kind)).setCell ⟨g, 2, none⟩ (.int .i64 e.save)).setCell ⟨g, 3, none⟩ (.string e.set)).setCell ⟨g, 4, none⟩ (.string e.fmt)).setCell ⟨g, 5, none⟩ (.bool e.ui)).setCell ⟨g, 6, none⟩ (.int .i64 e.uy)).setCell ⟨g, 7, none⟩ (.int .i64 e.um)).setCell ⟨g, 8, none⟩ (.int .i64 e.dk)).setCell ⟨g, 9, none⟩ (.int .i64 e.dw)).setCell ⟨g, 10, none⟩ (.int .i64 e.dd)).setCell ⟨g, 11, none⟩ (.int .i64 e.asec)).setCell ⟨g, 12, none⟩ (.int .i64 e.ab)) g' t cs :=
  (((((((((((((h.far (p := ⟨g, 0, none⟩) hn _).far (p := ⟨g, 1, none⟩) hn _).far (p := ⟨g, 2, none⟩) hn _).far (p := ⟨g, 3, none⟩) hn _).far (p := ⟨g, 4, none⟩) hn _).far (p := ⟨g, 5, none⟩) hn _).far (p := ⟨g, 6, none⟩) hn _).far (p := ⟨g, 7, none⟩) hn _).far (p := ⟨g, 8, none⟩) hn _).far (p := ⟨g, 9, none⟩) hn _).far (p := ⟨g, 10, none⟩) hn _).far (p := ⟨g, 11, none⟩) hn _).far (p := ⟨g, 12, none⟩) hn _)
theorem thirteen {W : World} {g : Nat} {t : TypeId} (h : ∃ cs : Array Value, cs.size = 13 ∧ Blk W g t cs) : ∃ c0 c1 c2 c3 c4 c5 c6 c7 c8 c9 c10 c11 c12, Blk W g t #[c0, c1, c2, c3, c4, c5, c6, c7, c8, c9, c10, c11, c12] := by
  obtain ⟨⟨l⟩, hc, hb⟩ := h
  match l, hc with
  | [c0, c1, c2, c3, c4, c5, c6, c7, c8, c9, c10, c11, c12], _ => exact ⟨_, _, _, _, _, _, _, _, _, _, _, _, _, hb⟩
/-- where the region stands: what slots 10 and 11 point to -/
structure Two (wi : World) (f : EV) (y : Nat → Value) (W : World) : Prop where
  bel : Below wi.heap.size wi W
  a : ∀ g, y 10 = .pointer (some ⟨g, 0, none⟩) → wi.heap.size ≤ g → ∃ cs : Array Value, cs.size = 13 ∧ Blk W g 47 cs
  b : ∀ g, y 11 = .pointer (some ⟨g, 0, none⟩) → wi.heap.size ≤ g → Blk W g 47 #[.int .i64 0, .int .i64 0, .int .i64 0, .string ⟨#[]⟩, .string ⟨#[]⟩, .bool false, .int .i64 0, .int .i64 0, .int .i64 0, .int .i64 0, .int .i64 0, .int .i64 0, .int .i64 0] ∨ Blk W g 47 #[.int .i64 f.off, .int .i64 f.kind, .int .i64 f.save, .string f.set, .string f.fmt, .bool f.ui, .int .i64 f.uy, .int .i64 f.um, .int .i64 f.dk, .int .i64 f.dw, .int .i64 f.dd, .int .i64 f.asec, .int .i64 f.ab]
  c : ∀ g g', y 10 = .pointer (some ⟨g, 0, none⟩) → y 11 = .pointer (some ⟨g', 0, none⟩) → wi.heap.size ≤ g → wi.heap.size ≤ g' → g ≠ g'
/-- boxes that hold the era keep it -/
def GC (e : EV) (W W' : World) : Prop := ∀ g, Blk W g 47 #[.int .i64 e.off, .int .i64 e.kind, .int .i64 e.save, .string e.set, .string e.fmt, .bool e.ui, .int .i64 e.uy, .int .i64 e.um, .int .i64 e.dk, .int .i64 e.dw, .int .i64 e.dd, .int .i64 e.asec, .int .i64 e.ab] → Blk W' g 47 #[.int .i64 e.off, .int .i64 e.kind, .int .i64 e.save, .string e.set, .string e.fmt, .bool e.ui, .int .i64 e.uy, .int .i64 e.um, .int .i64 e.dk, .int .i64 e.dw, .int .i64 e.dd, .int .i64 e.asec, .int .i64 e.ab]
section
variable {wi W : World} {e f : EV} {y : Nat → Value}
theorem GC.refl (e : EV) (W : World) : GC e W W := fun _ h => h
theorem Two.u (h : Two wi f y W) {d : Nat} {v : Value} (h1 : 10 ≠ d) (h2 : 11 ≠ d) : Two wi f (upd y (some d) v) W :=
  ⟨h.bel, fun g hg => h.a g (by rw [← hg]; show y 10 = if 10 = d then v else y 10; rw [if_neg h1]), fun g hg => h.b g (by rw [← hg]; show y 11 = if 11 = d then v else y 11; rw [if_neg h2]), fun g g' hg hg' => h.c g g' (by rw [← hg]; show y 10 = if 10 = d then v else y 10; rw [if_neg h1]) (by rw [← hg']; show y 11 = if 11 = d then v else y 11; rw [if_neg h2])⟩
theorem GC.alloc (e : EV) (W : World) (ob : Obj) : GC e W (W.alloc ob) := fun g h => h.alloc ob
end
end Go.Proofs.YtlideagcmhlkeaaDoor

/- What the regions of layer 25 keep that draw and ask the counter. No walk. -/
namespace Go.Proofs.YtlideagcmhlkeaaDoor
open Go.RowKit Go.Lib
set_option linter.unusedVariables false

/-- blocks that are no counters and no eras stay -/
def GI (W W' : World) : Prop := ∀ (g : Nat) (e : TypeId) (cs : Array Value), e ≠ 3 → e ≠ 47 → Blk W g e cs → Blk W' g e cs
theorem GI.refl (W : World) : GI W W := fun _ _ _ _ _ h => h
theorem GI.below {W W' : World} (h : Below W.heap.size W W') : GI W W' := fun _ _ _ _ _ hb => hb.below h hb.lt
theorem GI.cs {W W' : World} {N : Nat} {ns : Array Value} (hN : Blk W N 3 ns) (h : CS N W W') : GI W W' := fun g e cs he _ hb => h.box hb (fun q => he (by
  subst q
  unfold Blk at hb hN
  rw [hN] at hb
  injection hb with hb
  injection hb with _ hb _
  exact hb.symm))
theorem GI.set_ {W : World} {g : Nat} {ns : Array Value} (hN : Blk W g 47 ns) (j : Nat) (u : Value) : GI W (W.setCell ⟨g, j, none⟩ u) := fun k e cs _ he hb => blk_box hb hN he j u
theorem GI.trans {A B C : World} (h : GI A B) (k : GI B C) : GI A C := fun g e cs h1 h2 hb => k g e cs h1 h2 (h g e cs h1 h2 hb)
theorem GI.row {α : Type} {W W' : World} {base : Nat} {e : TypeId} {m : Nat} {f : α → List Value} {A : Option Addr} {c : Nat} {L : List α} (hg : GI W W') (h1 : e ≠ 3) (h2 : e ≠ 47) (h : RowOf W base e m f A c L) : RowOf W' base e m f A c L := by
  refine ⟨h.1, ?_⟩
  rcases h.2 with q | ⟨k, cap, cur, hv, hb2, hh, hr⟩
  · exact .inl q
  · exact .inr ⟨k, cap, cur, hv, hb2, hg k e cur h1 h2 hh, hr⟩
section
variable {w wi W W' W0 : World} {d : D25} {n zb ec eb : Nat} {nm : ByteArray} {eA : Option Addr} {Es : List EV}
theorem El.whole (h : El w wi W d n zb nm eA ec Es) (hw : w.heap.size + 7 ≤ wi.heap.size) {g : Nat} (hg : wi.heap.size ≤ g) (hgz : zb ≠ g) (hr : ∀ K, (Value.slice eA Es.length ec).ownBlock = some K → K ≠ g) (e : EV) : El w wi (((((((((((((W.setCell ⟨g, 0, none⟩ (.int .i64 e.off)).setCell ⟨g, 1, none⟩ (.int .i64 e.kind)).setCell ⟨g, 2, none⟩ (.int .i64 e.save)).setCell ⟨g, 3, none⟩ (.string e.set)).setCell ⟨g, 4, none⟩ (.string e.fmt)).setCell ⟨g, 5, none⟩ (.bool e.ui)).setCell ⟨g, 6, none⟩ (.int .i64 e.uy)).setCell ⟨g, 7, none⟩ (.int .i64 e.um)).setCell ⟨g, 8, none⟩ (.int .i64 e.dk)).setCell ⟨g, 9, none⟩ (.int .i64 e.dw)).setCell ⟨g, 10, none⟩ (.int .i64 e.dd)).setCell ⟨g, 11, none⟩ (.int .i64 e.asec)).setCell ⟨g, 12, none⟩ (.int .i64 e.ab)) d n zb nm eA ec Es :=
  (((((((((((((h.set_ (wj := wi) hw hg hgz hr 0 (.int .i64 e.off)).set_ (wj := wi) hw hg hgz hr 1 (.int .i64 e.kind)).set_ (wj := wi) hw hg hgz hr 2 (.int .i64 e.save)).set_ (wj := wi) hw hg hgz hr 3 (.string e.set)).set_ (wj := wi) hw hg hgz hr 4 (.string e.fmt)).set_ (wj := wi) hw hg hgz hr 5 (.bool e.ui)).set_ (wj := wi) hw hg hgz hr 6 (.int .i64 e.uy)).set_ (wj := wi) hw hg hgz hr 7 (.int .i64 e.um)).set_ (wj := wi) hw hg hgz hr 8 (.int .i64 e.dk)).set_ (wj := wi) hw hg hgz hr 9 (.int .i64 e.dw)).set_ (wj := wi) hw hg hgz hr 10 (.int .i64 e.dd)).set_ (wj := wi) hw hg hgz hr 11 (.int .i64 e.asec)).set_ (wj := wi) hw hg hgz hr 12 (.int .i64 e.ab))
theorem GI.whole {g : Nat} {cs : Array Value} (hN : Blk W g 47 cs) (hc : cs.size = 13) (e : EV) : GI W (((((((((((((W.setCell ⟨g, 0, none⟩ (.int .i64 e.off)).setCell ⟨g, 1, none⟩ (.int .i64 e.kind)).setCell ⟨g, 2, none⟩ (.int .i64 e.save)).setCell ⟨g, 3, none⟩ (.string e.set)).setCell ⟨g, 4, none⟩ (.string e.fmt)).setCell ⟨g, 5, none⟩ (.bool e.ui)).setCell ⟨g, 6, none⟩ (.int .i64 e.uy)).setCell ⟨g, 7, none⟩ (.int .i64 e.um)).setCell ⟨g, 8, none⟩ (.int .i64 e.dk)).setCell ⟨g, 9, none⟩ (.int .i64 e.dw)).setCell ⟨g, 10, none⟩ (.int .i64 e.dd)).setCell ⟨g, 11, none⟩ (.int .i64 e.asec)).setCell ⟨g, 12, none⟩ (.int .i64 e.ab)) := fun k t ds h1 h2 hb => era_far hb (fun q => h2 (by
  subst q
  unfold Blk at hb hN
  rw [hN] at hb
  injection hb with hb
  injection hb with _ hb _
  exact hb.symm)) e
/-- where a region stands that asks the counter twice -/
structure S3 (w wi W0 W : World) (d : D25) (n zb : Nat) (nm : ByteArray) (eA : Option Addr) (ec : Nat) (Es : List EV) (eb : Nat) (a b : Bool) : Prop where
  el : ∃ N, N = n + a.toNat + b.toNat ∧ El w wi W d N zb nm eA ec Es
  box : ∃ cs : Array Value, cs.size = 13 ∧ Blk W eb 47 cs
  le : W0.heap.size ≤ W.heap.size
theorem S3.below {a b : Bool} (h : S3 w wi W0 W d n zb nm eA ec Es eb a b) (hb : Below W.heap.size W W') : S3 w wi W0 W' d n zb nm eA ec Es eb a b :=
  ⟨by obtain ⟨N, h1, h2⟩ := h.el; exact ⟨N, h1, h2.below hb⟩, by obtain ⟨cs, h1, h2⟩ := h.box; exact ⟨cs, h1, h2.below hb h2.lt⟩, Nat.le_trans h.le hb.size⟩
theorem S3.bel {a b : Bool} (h : S3 w wi W0 W d n zb nm eA ec Es eb a b) : Below w.heap.size w W := by obtain ⟨N, h1, h2⟩ := h.el; exact h2.bx.bel
theorem S3.one (h : S3 w wi W0 W d n zb nm eA ec Es eb false false) : El w wi W d n zb nm eA ec Es := by obtain ⟨N, h1, h2⟩ := h.el; have e : N = n := h1; rw [e] at h2; exact h2
theorem S3.two (h : S3 w wi W0 W d n zb nm eA ec Es eb true false) : El w wi W d (n + 1) zb nm eA ec Es := by obtain ⟨N, h1, h2⟩ := h.el; have e : N = n + 1 := h1; rw [e] at h2; exact h2
theorem S3.all (h : S3 w wi W0 W d n zb nm eA ec Es eb true true) : El w wi W d (n + 2) zb nm eA ec Es := by obtain ⟨N, h1, h2⟩ := h.el; have e : N = n + 2 := h1; rw [e] at h2; exact h2
theorem S3.at1 (h : S3 w wi W0 W d n zb nm eA ec Es eb false false) (hw : w.heap.size + 7 ≤ wi.heap.size) (hz : w.heap.size + 7 ≤ zb) (he : w.heap.size + 7 ≤ eb) (hx : Bx w W' d (n + 1)) (hc : CS (w.heap.size + 2) W W') : S3 w wi W0 W' d n zb nm eA ec Es eb true false :=
  ⟨⟨n + 1, rfl, h.one.step hw hz hx hc⟩, by obtain ⟨cs, h1, h2⟩ := h.box; exact ⟨cs, h1, hc.box h2 (by omega)⟩, by rw [hc.sz]; exact h.le⟩
theorem S3.at2 (h : S3 w wi W0 W d n zb nm eA ec Es eb true false) (hw : w.heap.size + 7 ≤ wi.heap.size) (hz : w.heap.size + 7 ≤ zb) (he : w.heap.size + 7 ≤ eb) (hx : Bx w W' d (n + 1 + 1)) (hc : CS (w.heap.size + 2) W W') : S3 w wi W0 W' d n zb nm eA ec Es eb true true :=
  ⟨⟨n + 1 + 1, rfl, h.two.step hw hz hx hc⟩, by obtain ⟨cs, h1, h2⟩ := h.box; exact ⟨cs, h1, hc.box h2 (by omega)⟩, by rw [hc.sz]; exact h.le⟩
end
end Go.Proofs.YtlideagcmhlkeaaDoor

/- The ends of eras in the walk of layer 25, and what one zone more does. No walk. -/
namespace Go.Proofs.YtlideagcmhlkeaaDoor
open Go.RowKit Go.Lib
set_option linter.unusedVariables false

theorem KL.row2 {α : Type} {n : Nat} {X : List Nat} {A B : World} {base : Nat} {e : TypeId} {m : Nat} {f : α → List Value} {P : Option Addr} {c : Nat} {L : List α} (h : KL n X A B) (hx : ∀ g, (Value.slice P L.length c).ownBlock = some g → g < n ∧ g ∉ X) (hr : RowOf A base e m f P c L) : RowOf B base e m f P c L := by
  refine ⟨hr.1, ?_⟩
  rcases hr.2 with q | ⟨g, cap, cur, hv, hb, hh, hq⟩
  · exact .inl q
  · exact .inr ⟨g, cap, cur, hv, hb, (h.blk g (hx g (by rw [hv]; rfl)).1 (hx g (by rw [hv]; rfl)).2).trans hh, hq⟩
section
variable {w wi W W' W0 : World} {d : D25} {n zb ec : Nat} {nm : ByteArray} {eA : Option Addr} {Es : List EV}
/-- the end of an era is written -/
theorem El.unt {B p : Nat} (h : El w wi W d n zb nm (some ⟨B, 0, none⟩) ec Es) (hw : w.heap.size + 7 ≤ wi.heap.size) {x : EV} (hx : Es[p]? = some x) (yr dd asec ab : Int) :
    El w wi ((((((((W.setCell ⟨B, p * 13 + 5, none⟩ (.bool true)).setCell ⟨B, p * 13 + 6, none⟩ (.int .i64 yr)).setCell ⟨B, p * 13 + 7, none⟩ (.int .i64 12)).setCell ⟨B, p * 13 + 8, none⟩ (.int .i64 1)).setCell ⟨B, p * 13 + 9, none⟩ (.int .i64 0)).setCell ⟨B, p * 13 + 10, none⟩ (.int .i64 dd)).setCell ⟨B, p * 13 + 11, none⟩ (.int .i64 asec)).setCell ⟨B, p * 13 + 12, none⟩ (.int .i64 ab)) d n zb nm (some ⟨B, 0, none⟩) ec (Es.set p { x with ui := true, uy := yr, um := 12, dk := 1, dw := 0, dd := dd, asec := asec, ab := ab }) := by
  have hrow := h.row
  have hO : (Value.slice (some ⟨B, 0, none⟩) Es.length ec).ownBlock = some B := rfl
  have hBi : wi.heap.size ≤ B := (World.ownsRow.lt hrow B hO).1
  have hB7 : w.heap.size + 6 ≤ B := by omega
  have hl := (List.getElem?_eq_some_iff.1 hx).1
  have hzB : zb ≠ B := fun q => by
    obtain ⟨cur, hc⟩ := block_of hrow hO
    have hb := h.box
    unfold Blk at hb
    rw [← q, hb] at hc
    injection hc with hc
    injection hc with _ hc _
    revert hc; decide
  have t0 := RowOf.set_ hrow len_era p 5 (x : EV) ({ x with ui := true } : EV) (.bool true) (by decide) hx rfl
  have t1 := RowOf.set_ t0 len_era p 6 ({ x with ui := true } : EV) ({ x with ui := true, uy := yr } : EV) (.int .i64 yr) (by decide) (by rw [List.getElem?_set_self (by simpa using hl)]) rfl
  rw [List.set_set] at t1
  have t2 := RowOf.set_ t1 len_era p 7 ({ x with ui := true, uy := yr } : EV) ({ x with ui := true, uy := yr, um := 12 } : EV) (.int .i64 12) (by decide) (by rw [List.getElem?_set_self (by simpa using hl)]) rfl
  rw [List.set_set] at t2
  have t3 := RowOf.set_ t2 len_era p 8 ({ x with ui := true, uy := yr, um := 12 } : EV) ({ x with ui := true, uy := yr, um := 12, dk := 1 } : EV) (.int .i64 1) (by decide) (by rw [List.getElem?_set_self (by simpa using hl)]) rfl
  rw [List.set_set] at t3
  have t4 := RowOf.set_ t3 len_era p 9 ({ x with ui := true, uy := yr, um := 12, dk := 1 } : EV) ({ x with ui := true, uy := yr, um := 12, dk := 1, dw := 0 } : EV) (.int .i64 0) (by decide) (by rw [List.getElem?_set_self (by simpa using hl)]) rfl
  rw [List.set_set] at t4
  have t5 := RowOf.set_ t4 len_era p 10 ({ x with ui := true, uy := yr, um := 12, dk := 1, dw := 0 } : EV) ({ x with ui := true, uy := yr, um := 12, dk := 1, dw := 0, dd := dd } : EV) (.int .i64 dd) (by decide) (by rw [List.getElem?_set_self (by simpa using hl)]) rfl
  rw [List.set_set] at t5
  have t6 := RowOf.set_ t5 len_era p 11 ({ x with ui := true, uy := yr, um := 12, dk := 1, dw := 0, dd := dd } : EV) ({ x with ui := true, uy := yr, um := 12, dk := 1, dw := 0, dd := dd, asec := asec } : EV) (.int .i64 asec) (by decide) (by rw [List.getElem?_set_self (by simpa using hl)]) rfl
  rw [List.set_set] at t6
  have t7 := RowOf.set_ t6 len_era p 12 ({ x with ui := true, uy := yr, um := 12, dk := 1, dw := 0, dd := dd, asec := asec } : EV) ({ x with ui := true, uy := yr, um := 12, dk := 1, dw := 0, dd := dd, asec := asec, ab := ab } : EV) (.int .i64 ab) (by decide) (by rw [List.getElem?_set_self (by simpa using hl)]) rfl
  rw [List.set_set] at t7
  exact ⟨((((((((h.bx.set_ hB7 (p * 13 + 5) (.bool true)).set_ hB7 (p * 13 + 6) (.int .i64 yr)).set_ hB7 (p * 13 + 7) (.int .i64 12)).set_ hB7 (p * 13 + 8) (.int .i64 1)).set_ hB7 (p * 13 + 9) (.int .i64 0)).set_ hB7 (p * 13 + 10) (.int .i64 dd)).set_ hB7 (p * 13 + 11) (.int .i64 asec)).set_ hB7 (p * 13 + 12) (.int .i64 ab)), ((((((((h.kl.set_ (p := ⟨B, p * 13 + 5, none⟩) (.inr hBi) (.bool true)).set_ (p := ⟨B, p * 13 + 6, none⟩) (.inr hBi) (.int .i64 yr)).set_ (p := ⟨B, p * 13 + 7, none⟩) (.inr hBi) (.int .i64 12)).set_ (p := ⟨B, p * 13 + 8, none⟩) (.inr hBi) (.int .i64 1)).set_ (p := ⟨B, p * 13 + 9, none⟩) (.inr hBi) (.int .i64 0)).set_ (p := ⟨B, p * 13 + 10, none⟩) (.inr hBi) (.int .i64 dd)).set_ (p := ⟨B, p * 13 + 11, none⟩) (.inr hBi) (.int .i64 asec)).set_ (p := ⟨B, p * 13 + 12, none⟩) (.inr hBi) (.int .i64 ab)), by rw [List.length_set]; exact ((((((((h.box.far (p := ⟨B, p * 13 + 5, none⟩) hzB (.bool true)).far (p := ⟨B, p * 13 + 6, none⟩) hzB (.int .i64 yr)).far (p := ⟨B, p * 13 + 7, none⟩) hzB (.int .i64 12)).far (p := ⟨B, p * 13 + 8, none⟩) hzB (.int .i64 1)).far (p := ⟨B, p * 13 + 9, none⟩) hzB (.int .i64 0)).far (p := ⟨B, p * 13 + 10, none⟩) hzB (.int .i64 dd)).far (p := ⟨B, p * 13 + 11, none⟩) hzB (.int .i64 asec)).far (p := ⟨B, p * 13 + 12, none⟩) hzB (.int .i64 ab)), t7⟩
/-- where a region stands that asks the counter three times and writes the end of an era; s: it is written -/
structure S4 (w wi W0 W : World) (d : D25) (n zb : Nat) (nm : ByteArray) (eA : Option Addr) (ec : Nat) (Es Fs : List EV) (a b c s : Bool) : Prop where
  el : ∃ N E, N = n + a.toNat + b.toNat + c.toNat ∧ (s = false → E = Es) ∧ (s = true → E = Fs) ∧ E.length = Es.length ∧ El w wi W d N zb nm eA ec E
  le : W0.heap.size ≤ W.heap.size
section
variable {Fs : List EV} {a b c s : Bool}
theorem S4.below (h : S4 w wi W0 W d n zb nm eA ec Es Fs a b c s) (hb : Below W.heap.size W W') : S4 w wi W0 W' d n zb nm eA ec Es Fs a b c s :=
  ⟨by obtain ⟨N, E, h1, h2, h3, h4, h5⟩ := h.el; exact ⟨N, E, h1, h2, h3, h4, h5.below hb⟩, Nat.le_trans h.le hb.size⟩
theorem S4.num (h : S4 w wi W0 W d n zb nm eA ec Es Fs a b c s) : Bx w W d (n + a.toNat + b.toNat + c.toNat) := by obtain ⟨N, E, h1, h2, h3, h4, h5⟩ := h.el; rw [← h1]; exact h5.bx
theorem S4.ask (h : S4 w wi W0 W d n zb nm eA ec Es Fs a b c s) (hw : w.heap.size + 7 ≤ wi.heap.size) (hz : w.heap.size + 7 ≤ zb) {a' b' c' : Bool} (hn : n + a'.toNat + b'.toNat + c'.toNat = n + a.toNat + b.toNat + c.toNat + 1) (hx : Bx w W' d (n + a.toNat + b.toNat + c.toNat + 1)) (hc : CS (w.heap.size + 2) W W') : S4 w wi W0 W' d n zb nm eA ec Es Fs a' b' c' s := by
  obtain ⟨N, E, h1, h2, h3, h4, h5⟩ := h.el
  subst h1
  exact ⟨⟨_, E, hn.symm, h2, h3, h4, h5.step hw hz hx hc⟩, by rw [hc.sz]; exact h.le⟩
end
/-- what of the zones so far still stands -/
theorem Zl.rowAt {w1 wo : World} {m yc : Nat} {rv : Value} {yA : Option Addr} {Y : List ZV} (h0 : Zl w w1 wo d n rv yA yc Y) (hlt : w.heap.size + 7 ≤ w1.heap.size) (hbi : Below wo.heap.size wo wi) (he : El w wi W d m wo.heap.size nm eA ec Es) :
    RowOf W w1.heap.size 39 2 ZV.cells yA yc Y ∧ (∀ y ∈ Y, RowOf W w1.heap.size 47 13 EV.cells y.A y.c y.eras) ∧ Blk W (w.heap.size + 6) 32 #[rv, .slice yA Y.length yc, .slice none 0 0, .slice none 0 0] ∧ KL w1.heap.size [w.heap.size + 2, w.heap.size + 6] w1 W := by
  have hle := h0.kl.le
  have hsz := hbi.size
  have key : ∀ g, w1.heap.size ≤ g → g < wo.heap.size → g < wi.heap.size ∧ g ∉ [w.heap.size + 2, wo.heap.size] := fun g h1 h2 => ⟨by omega, by simp; omega⟩
  refine ⟨he.kl.row2 (fun g hg => ?_) (h0.zrow.below hbi), fun y hy => he.kl.row2 (fun g hg => ?_) ((h0.eras y hy).below hbi), he.kl.box (h0.own.below hbi h0.own.lt) (by omega) (by simp; omega), (h0.kl.below hbi).trans he.kl (by omega) (fun y hy => ?_)⟩
  · have q := World.ownsRow.lt h0.zrow g hg
    exact key g q.1 q.2
  · have q := World.ownsRow.lt (h0.eras y hy) g hg
    exact key g q.1 q.2
  · simp only [List.mem_cons, List.not_mem_nil, or_false] at hy
    rcases hy with rfl | rfl
    · exact .inl (by simp)
    · exact .inr hle
/-- one zone more -/
theorem Zl.snoc {w1 wo : World} {m yc yc' : Nat} {rv : Value} {yA yA' : Option Addr} {Y : List ZV} (h0 : Zl w w1 wo d n rv yA yc Y) (hlt : w.heap.size + 7 ≤ w1.heap.size) (hwi : wo.heap.size ≤ wi.heap.size) (hbi : Below wo.heap.size wo wi) (he : El w wi W d m wo.heap.size nm eA ec Es)
    (hg : W.grownBy W' (Value.slice yA Y.length yc).ownBlock) (hr : RowOf W' w1.heap.size 39 2 ZV.cells yA' yc' (Y ++ [⟨nm, eA, ec, Es⟩])) :
    Zl w w1 (W'.setCell ⟨w.heap.size + 6, 1, none⟩ (.slice yA' (Y.length + 1) yc')) d m rv yA' yc' (Y ++ [⟨nm, eA, ec, Es⟩]) := by
  obtain ⟨hz, hes, ho, hk⟩ := h0.rowAt hlt hbi he
  have hle := h0.kl.le
  have hl : Y.length + 1 = (Y ++ [(⟨nm, eA, ec, Es⟩ : ZV)]).length := by simp
  rw [hl]
  have o := blk_other ho hz (by decide) hg
  have hb7 : w.heap.size ≤ w1.heap.size := by omega
  refine ⟨(he.bx.grown hz hg hb7 (by decide) (by decide) (by decide) (by decide)).set_ (Nat.le_refl _) 1 _, (hk.grown hz hg (Nat.le_refl _)).set_ (.inl (by simp)) _, o.set_ 1 _, row_box hr o (by decide) 1 _, fun y hy => row_box ?_ o (by decide) 1 _⟩
  rcases List.mem_append.1 hy with hy | hy
  · exact row_other (hes y hy) hz (by decide) hg
  · rw [List.mem_singleton] at hy
    subst hy
    exact row_other (RowOf.low he.row (by omega)) hz (by decide) hg
end
end Go.Proofs.YtlideagcmhlkeaaDoor

/- What one zone, one link more of layer 25 is. No walk. -/
namespace Go.Proofs.YtlideagcmhlkeaaDoor
open Go.RowKit Go.Lib
set_option linter.unusedVariables false

theorem zones25_len (L : List Int) (D : Nat → List Int) (made : Nat) : ∀ i, (P25.zonesTo L D made i).1.length = i
  | 0 => rfl
  | i + 1 => by
    show ((P25.zonesTo L D made i).1 ++ [_]).length = i + 1
    rw [List.length_append, zones25_len L D made i]
    rfl
theorem zone_step {L : List Int} {D : Nat → List Int} {made n j A1 A2 m m2 : Nat} {Es E2 : List EV} {Y2 : Int} {Z : List (ByteArray × List EV)} (hz : P25.zonesTo L D made j = (Z, n)) (h1 : P25.g L (n + 1) 60 = A1) (h2 : P25.g L (n + 1 + 1) 4 = A2) (he : P25.erasTo L D made (n + 2) (1 + A2) = (Es, m)) (hu : P25.untTo L Es m (1860 + (A1 : Int)) A2 = (E2, m2, Y2)) :
    P25.zonesTo L D made (j + 1) = (Z ++ [(P25.zn j, E2)], m2) := by
  show ((P25.zonesTo L D made j).1 ++ [(P25.zn j, (P25.zone L D made (P25.zonesTo L D made j).2).1)], (P25.zone L D made (P25.zonesTo L D made j).2).2) = _
  rw [hz]
  show (Z ++ [(P25.zn j, (P25.zone L D made n).1)], (P25.zone L D made n).2) = _
  have hc : P25.cnt L n = 1 + A2 := by
    show 1 + P25.g L (n + 1 + 1) 4 = _
    rw [h2]
  have hc1 : P25.cnt L n - 1 = A2 := by omega
  unfold P25.zone
  rw [hc1, hc, he]
  show (Z ++ [(P25.zn j, (P25.untTo L Es m (1860 + (P25.g L (n + 1) 60 : Int)) A2).1)], (P25.untTo L Es m (1860 + (P25.g L (n + 1) 60 : Int)) A2).2.1) = _
  rw [h1, hu]
theorem links25_len (L : List Int) (Z : List ByteArray) (n : Nat) : ∀ i, (P25.linksTo L Z n i).1.length = i
  | 0 => rfl
  | i + 1 => by
    show ((P25.linksTo L Z n i).1 ++ [_]).length = i + 1
    rw [List.length_append, links25_len L Z n i]
    rfl
theorem links25_le (L : List Int) (Z : List ByteArray) (n : Nat) : ∀ i, (P25.linksTo L Z n i).2 ≤ n + 2 * i
  | 0 => by show n ≤ n + 2 * 0; omega
  | i + 1 => by
    have q := links25_le L Z n i
    show (P25.link L Z i (P25.linksTo L Z n i).2).2 ≤ _
    unfold P25.link
    split
    · show _ + 1 ≤ _; omega
    · split <;> (show _ + 2 ≤ _; omega)
theorem link_step {L : List Int} {Z : List ByteArray} {n i m m2 : Nat} {K : List KV} {x : KV} (h : P25.linksTo L Z n i = (K, m)) (hl : P25.link L Z i m = (x, m2)) : P25.linksTo L Z n (i + 1) = (K ++ [x], m2) := by
  show ((P25.linksTo L Z n i).1 ++ [(P25.link L Z i (P25.linksTo L Z n i).2).1], (P25.link L Z i (P25.linksTo L Z n i).2).2) = _
  rw [h]
  show (K ++ [(P25.link L Z i m).1], (P25.link L Z i m).2) = _
  rw [hl]
section
variable {L : List Int} {Z : List ByteArray} {i m T F : Nat} {nm : ByteArray}
theorem link_first (h0 : i = 0) (hT : P25.g L (m + 1) Z.length = T) (hn : Z[T]? = some nm) : P25.link L Z i m = (⟨nm, P25.ln i⟩, m + 1) := by
  unfold P25.link
  rw [if_pos h0, hT, hn]
  rfl
theorem link_back (h0 : i ≠ 0) (hF : P25.g L (m + 1 + 1) 2 = F) (h : F = 0) : P25.link L Z i m = (⟨P25.ln (i - 1), P25.ln i⟩, m + 2) := by
  unfold P25.link
  rw [if_neg h0, if_pos (show P25.g L (m + 2) 2 = 0 from hF.trans h)]
theorem link_zone (h0 : i ≠ 0) (hT : P25.g L (m + 1) Z.length = T) (hF : P25.g L (m + 1 + 1) 2 = F) (h : F ≠ 0) (hn : Z[T]? = some nm) : P25.link L Z i m = (⟨nm, P25.ln i⟩, m + 2) := by
  unfold P25.link
  rw [if_neg h0, if_neg (show ¬ P25.g L (m + 2) 2 = 0 from fun q => h (hF.symm.trans q)), hT, hn]
  rfl
end
end Go.Proofs.YtlideagcmhlkeaaDoor

/- What a source of layer 25 is good for: few parts, numbers and strings in bounds, no set of another name. No walk. -/
namespace Go.Proofs.YtlideagcmhlkeaaDoor
open Go.RowKit
set_option linter.unusedVariables false

/-- an era of layer 25 -/
structure GE25 (e : EV) : Prop where
  off : -90000 ≤ e.off ∧ e.off ≤ 90000
  save : 0 ≤ e.save ∧ e.save ≤ 7200
  fmt : e.fmt.size ≤ 15
  set : e.set ≠ ⟨#[78, 111, 110, 101]⟩
theorem f4_size (k : Nat) : (P25.f4 k).size ≤ 15 := by
  unfold P25.f4
  split
  · decide
  · split
    · decide
    · split <;> decide
theorem sn_none (k : Nat) : P25.sn k ≠ ⟨#[78, 111, 110, 101]⟩ := by
  unfold P25.sn
  split <;> decide
theorem fmt21_size (K off : Int) (R : List RV) : (fmt21 K off R).size ≤ 15 := by
  unfold fmt21
  split
  · decide
  · split
    · decide
    · split
      · decide
      · split
        · decide
        · rw [str_size]
          exact exp_len 2 (offOf off) 0 (svs R)
theorem base_good (L : List Int) (n : Nat) : GE25 (P25.baseE L n) := by
  have h := P25.g_lt L (n + 1) (m := 53) (by decide)
  refine ⟨?_, ⟨by show (0 : Int) ≤ 0; decide, by show (0 : Int) ≤ 7200; decide⟩, f4_size _, by show (⟨#[]⟩ : ByteArray) ≠ _; decide⟩
  show -90000 ≤ ((P25.g L (n + 1) 53 : Int) - 26) * 1800 ∧ ((P25.g L (n + 1) 53 : Int) - 26) * 1800 ≤ 90000
  omega
theorem era_good25 (L : List Int) (D : Nat → List Int) (made k n : Nat) : GE25 (P25.era L D made k n).1 := by
  unfold P25.era
  split
  · refine ⟨?_, ⟨by show (0 : Int) ≤ 0; decide, by show (0 : Int) ≤ 7200; decide⟩, fmt21_size _ _ _, sn_none _⟩
    show -90000 ≤ offOf _ ∧ offOf _ ≤ 90000
    have := offOf_bd (o := (P25.g L (n + 5) 49 : Int)) (by omega)
    omega
  · split
    · have b := base_good L n
      have h := P25.g_lt L (n + 4) (m := 4) (by decide)
      refine ⟨b.off, ?_, b.fmt, b.set⟩
      show (0 : Int) ≤ (1 + (P25.g L (n + 4) 4 : Int)) * 1800 ∧ (1 + (P25.g L (n + 4) 4 : Int)) * 1800 ≤ 7200
      omega
    · exact base_good L n
theorem eras_good25 (L : List Int) (D : Nat → List Int) (made n : Nat) : ∀ k, ∀ e ∈ (P25.erasTo L D made n k).1, GE25 e
  | 0, e, he => by cases he
  | k + 1, e, he => by
    have he' : e ∈ (P25.erasTo L D made n k).1 ++ [(P25.era L D made k (P25.erasTo L D made n k).2).1] := he
    rcases List.mem_append.1 he' with q | q
    · exact eras_good25 L D made n k e q
    · obtain rfl := List.mem_singleton.1 q
      exact era_good25 ..
theorem mem_modify25 {α : Type} (f : α → α) : ∀ (l : List α) (k : Nat) (e : α), e ∈ l.modify k f → e ∈ l ∨ ∃ a ∈ l, e = f a
  | [], k, e, h => by rw [List.modify_nil] at h; cases h
  | x :: l, 0, e, h => by
    rw [List.modify_zero_cons] at h
    rcases List.mem_cons.1 h with q | q
    · exact .inr ⟨x, List.mem_cons_self, q⟩
    · exact .inl (List.mem_cons_of_mem _ q)
  | x :: l, k + 1, e, h => by
    rw [List.modify_succ_cons] at h
    rcases List.mem_cons.1 h with q | q
    · exact .inl (by rw [q]; exact List.mem_cons_self)
    · rcases mem_modify25 f l k e q with q | ⟨a, ha, q⟩
      · exact .inl (List.mem_cons_of_mem _ q)
      · exact .inr ⟨a, List.mem_cons_of_mem _ ha, q⟩
theorem unt_good25 (L : List Int) (E : List EV) (n : Nat) (y : Int) (h : ∀ e ∈ E, GE25 e) : ∀ k, (∀ e ∈ (P25.untTo L E n y k).1, GE25 e) ∧ (P25.untTo L E n y k).1.length = E.length
  | 0 => ⟨h, rfl⟩
  | k + 1 => by
    have q := unt_good25 L E n y h k
    refine ⟨fun e he => ?_, ?_⟩
    · have he' : e ∈ (P25.untTo L E n y k).1.modify k _ := he
      rcases mem_modify25 _ _ _ _ he' with z | ⟨a, ha, rfl⟩
      · exact q.1 e z
      · have z := q.1 a ha
        exact ⟨z.off, z.save, z.fmt, z.set⟩
    · show ((P25.untTo L E n y k).1.modify k _).length = _
      rw [List.length_modify, q.2]
theorem zone_good25 (L : List Int) (D : Nat → List Int) (made n : Nat) : (1 ≤ (P25.zone L D made n).1.length ∧ (P25.zone L D made n).1.length ≤ 4) ∧ ∀ e ∈ (P25.zone L D made n).1, GE25 e := by
  have q := unt_good25 L _ (P25.erasTo L D made (n + 2) (P25.cnt L n)).2 (1860 + (P25.g L (n + 1) 60 : Int)) (eras_good25 L D made (n + 2) (P25.cnt L n)) (P25.cnt L n - 1)
  have h := P25.g_lt L (n + 2) (m := 4) (by decide)
  refine ⟨?_, q.1⟩
  show 1 ≤ (P25.untTo L _ _ _ _).1.length ∧ (P25.untTo L _ _ _ _).1.length ≤ 4
  rw [q.2, P25.eras_len]
  unfold P25.cnt
  omega
theorem zones_good25 (L : List Int) (D : Nat → List Int) (made : Nat) : ∀ i, ∀ z ∈ (P25.zonesTo L D made i).1, (1 ≤ z.2.length ∧ z.2.length ≤ 4) ∧ ∀ e ∈ z.2, GE25 e
  | 0, z, hz => by cases hz
  | i + 1, z, hz => by
    have hz' : z ∈ (P25.zonesTo L D made i).1 ++ [(P25.zn i, (P25.zone L D made (P25.zonesTo L D made i).2).1)] := hz
    rcases List.mem_append.1 hz' with q | q
    · exact zones_good25 L D made i z q
    · obtain rfl := List.mem_singleton.1 q
      exact zone_good25 ..
theorem svok_rules25 (D : Nat → List Int) : ∀ n, SvOk (P25.rules D n)
  | 0 => fun y hy => by simp [P25.rules, svs] at hy
  | n + 1 => fun y hy => by
    rw [P25.rules_succ] at hy
    unfold svs at hy
    rw [List.map_append] at hy
    rcases List.mem_append.1 hy with q | q
    · exact svok_rules25 D n y q
    · exact (P17.made_good (D n) (P25.sn n)).svOk y q
theorem rules25_len' (D : Nat → List Int) : ∀ n, (P25.rules D n).length ≤ 5 * n
  | 0 => by simp [P25.rules]
  | n + 1 => by
    have h1 := rules25_len' D n
    have h2 := (P17.made_good (D n) (P25.sn n)).five
    rw [P25.rules_succ, List.length_append]
    omega
/-- what a source of layer 25 is good for -/
structure Good25 (t : SV) : Prop where
  zones : t.zones.length ≤ 3
  lens : t.rules.length ≤ 10 ∧ t.links.length ≤ 3 ∧ t.shifts = []
  eras : ∀ z ∈ t.zones, 1 ≤ z.eras.length ∧ z.eras.length ≤ 4
  era : ∀ z ∈ t.zones, ∀ e ∈ z.eras, GE25 e
  saves : SvOk t.rules
theorem Is25.good {d : D25} {t : SV} (h : Is25 d t) : Good25 t := by
  have key : ∀ z ∈ t.zones, (z.name, z.eras) ∈ d.zl.1 := fun z hz => by rw [← h.zones]; exact List.mem_map.2 ⟨z, hz, rfl⟩
  refine ⟨?_, ⟨?_, ?_, h.shifts⟩, fun z hz => (zones_good25 _ _ _ _ _ (key z hz)).1, fun z hz => (zones_good25 _ _ _ _ _ (key z hz)).2, by rw [h.rules]; exact svok_rules25 _ _⟩
  · have q := congrArg List.length h.zones
    rw [List.length_map] at q
    rw [q]
    unfold D25.zl
    rw [zones25_len]
    unfold D25.zn
    omega
  · rw [h.rules]
    have q := rules25_len' d.dr d.made
    unfold D25.made at *
    omega
  · rw [h.links]
    split
    · simp
    · rw [links25_len]
      unfold D25.ln
      omega
theorem Good25.few {t : SV} (h : Good25 t) : Few30 t := by
  have h1 := h.zones; have h2 := h.lens
  refine ⟨⟨by omega, by omega, by omega, by rw [h2.2.2]; decide⟩, fun z hz => by have := h.eras z hz; omega, fun z hz e he => ?_, h.saves⟩
  have g := h.era z hz e he
  have g1 := g.off; have g2 := g.save; have g3 := g.fmt
  exact ⟨by omega, by omega, by omega⟩
/-- a turned source is good for the same -/
theorem mem_mapS {F : EV → EV} {t : SV} {z : ZV} (hz : z ∈ (mapS F t).zones) : ∃ y ∈ t.zones, z.eras = y.eras.map F := by
  have hz' : z ∈ t.zones.map (mapE F) := hz
  obtain ⟨y, hy, rfl⟩ := List.mem_map.1 hz'
  exact ⟨y, hy, rfl⟩
theorem turnE_good {set : ByteArray} {e : EV} (h : GE25 e) : GE25 (turnE set e) := by
  unfold turnE
  split
  · exact ⟨h.off, h.save, by show (turnB e.fmt).size ≤ 15; rw [turnB_size]; exact h.fmt, h.set⟩
  · exact h
theorem Good25.turn {t : SV} (h : Good25 t) (set : ByteArray) : Good25 (mapS (turnE set) t) := by
  refine ⟨by show (t.zones.map _).length ≤ 3; rw [List.length_map]; exact h.zones, h.lens, fun z hz => ?_, fun z hz e he => ?_, h.saves⟩
  · obtain ⟨y, hy, hq⟩ := mem_mapS hz
    rw [hq, List.length_map]
    exact h.eras y hy
  · obtain ⟨y, hy, hq⟩ := mem_mapS hz
    rw [hq] at he
    obtain ⟨e', he', rfl⟩ := List.mem_map.1 he
    exact turnE_good (h.era y hy e' he')
/-- what the same is good for -/
theorem Good25.same {s t : SV} (h : Good25 t) (hs : sSame14 s t) : Good25 s := by
  obtain ⟨h1, h2, h3, h4, h5⟩ := hs
  have key : ∀ z ∈ s.zones, ∃ y ∈ t.zones, z.eras = y.eras := fun z hz => by
    obtain ⟨i, hi⟩ := List.getElem?_of_mem hz
    have hil : i < s.zones.length := (List.getElem?_eq_some_iff.1 hi).1
    obtain ⟨y, hy⟩ : ∃ y, t.zones[i]? = some y := ⟨_, List.getElem?_eq_getElem (by omega)⟩
    exact ⟨y, List.mem_of_getElem? hy, (h5 i z y hil hi hy).2⟩
  refine ⟨by rw [h4]; exact h.zones, by rw [h1, h2, h3]; exact h.lens, fun z hz => ?_, fun z hz e he => ?_, by rw [h1]; exact h.saves⟩
  · obtain ⟨y, hy, hq⟩ := key z hz
    rw [hq]; exact h.eras y hy
  · obtain ⟨y, hy, hq⟩ := key z hz
    rw [hq] at he; exact h.era y hy e he
/-- no era has the set of another name -/
theorem Good25.none {t : SV} (h : Good25 t) : mapS (turnE ⟨#[78, 111, 110, 101]⟩) t = t := mapS_id29 fun z hz e he => turnE_no fun q => (h.era z hz e he).set q.2
end Go.Proofs.YtlideagcmhlkeaaDoor

/- 'clear' on rows of structs, and what the law TurnApart keeps while it clears the rows of a copy. -/
namespace Go.Proofs.YtlideagcmhlkeaaDoor
open Go.RowKit
set_option linter.unusedVariables false

theorem below_setCells29 {B : Nat} {a : World} (b : Nat) (hb : B ≤ b) : ∀ (vs : List Value) (o : Nat) {w : World}, Below B a w → Below B a (w.setCells b o vs)
  | [], _, _, h => h
  | v :: r, o, _, h => below_setCells29 b hb r (o + 1) (h.setCell (p := ⟨b, o, none⟩) hb v)
theorem size_setCells29 (b : Nat) : ∀ (vs : List Value) (o : Nat) (w : World), (w.setCells b o vs).heap.size = w.heap.size
  | [], _, _ => rfl
  | v :: r, o, w => by rw [World.setCells, size_setCells29 b r]; simp [World.setCell]
/-- a row of structs is cleared: some cells of its block turn -/
theorem run_clear_row {P : Program} (w : World) (t e : TypeId) (zs : Array Value) (ht : P.underlying t = some (.slice e)) (hv : ∀ w, (zeroValue e).run P w = .ok (.agg zs) w) (h1 : ∀ v ∈ zs.toList, v.oneCell' = true) (h0 : 0 < zs.size) (base N n c : Nat) (A : Option Addr)
    (h : n = 0 ∨ ∃ g, A = some ⟨g, 0, none⟩ ∧ (base ≤ g ∧ g < N) ∧ w.there g 0 (n * zs.size)) :
    ∃ b vs, base ≤ b ∧ (vs = [] ∨ A = some ⟨b, 0, none⟩ ∧ b < N) ∧ ∀ ty, (Builtin.clear_ #[t] ty #[.slice A n c]).run P w = .ok (.tuple #[]) (w.setCells b 0 vs) := by
  rcases Nat.eq_zero_or_pos n with rfl | hn
  · exact ⟨base, [], Nat.le_refl _, .inl rfl, fun ty => by cases A <;> simp [Builtin.clear_, run_underlying ht, World.setCells]⟩
  · obtain ⟨g, rfl, hg, hth⟩ := h.resolve_left (by omega)
    refine ⟨g, (Builtin.zeroCells zs n).toList, hg.1, .inr ⟨rfl, hg.2⟩, ?_⟩
    have hlen : (Builtin.zeroCells zs n).toList.length = n * zs.size := by simp [Builtin.zeroCells]
    have hst := run_storeCells_cells (P := P) g 0 (Builtin.zeroCells zs n).toList 0 w (fun j hj => by rw [hlen] at hj; simpa using (hth j hj).1) (fun j hj => by rw [hlen] at hj; simpa using (hth j hj).2) (fun v hv' => by
      unfold Builtin.zeroCells at hv'
      rw [Array.toList_map] at hv'
      obtain ⟨i, _, rfl⟩ := List.mem_map.1 hv'
      have hlt : i % zs.size < zs.size := Nat.mod_lt _ h0
      rw [getElem!_pos zs (i % zs.size) hlt]
      exact h1 _ (by simp))
    simp only [Nat.add_zero] at hst
    obtain ⟨m, rfl⟩ : ∃ m, n = m + 1 := ⟨n - 1, by omega⟩
    intro ty
    simp [Builtin.clear_, run_underlying ht, hv, Value.cells, hst]
/-- a row of the call's own may be written -/
theorem own_there {W : World} {base n size c : Nat} {e : TypeId} {A : Option Addr} {xs : List Value} (h : W.ownsRow base e size (.slice A n c) n xs) : n = 0 ∨ ∃ g, A = some ⟨g, 0, none⟩ ∧ (base ≤ g ∧ g < W.heap.size) ∧ W.there g 0 (n * size) := by
  rcases h.2 with ⟨_, q⟩ | ⟨g, cap, cur, hv, hg, hh, hcap, _, hcs, hx⟩
  · exact .inl q
  · injection hv with hv1 _ _
    have hb : Blk W g e cur := hh
    refine .inr ⟨g, hv1, ⟨hg, hb.lt⟩, fun j hj => ?_⟩
    have hle : n * size ≤ cap * size := Nat.mul_le_mul_right _ hcap
    rw [Nat.zero_add]
    refine ⟨?_, hb.frozen j⟩
    rw [hb.cell j, Array.getElem?_eq_getElem (by omega)]
    rfl
/-- rows of different element types lie apart -/
theorem own_ne {W : World} {base base' n n' size size' c c' : Nat} {e e' : TypeId} {A A' : Option Addr} {xs xs' : List Value} (he : e ≠ e') (h : W.ownsRow base e size (.slice A n c) n xs) (h' : W.ownsRow base' e' size' (.slice A' n' c') n' xs') : ∀ g, A = some ⟨g, 0, none⟩ → A' ≠ some ⟨g, 0, none⟩ := fun g hA hA' => by
  subst hA; subst hA'
  rcases h.2 with ⟨hv, _⟩ | ⟨g1, cap, cur, hv, _, hh, _⟩
  · cases hv
  · rcases h'.2 with ⟨hv', _⟩ | ⟨g2, cap2, cur2, hv', _, hh', _⟩
    · cases hv'
    · injection hv with q _ _; injection q with q; injection q with q _ _
      injection hv' with q' _ _; injection q' with q'; injection q' with q' _ _
      rw [← q] at hh; rw [← q', hh] at hh'
      injection hh' with z
      injection z with _ z _
      exact he z
/-- what stays while the rows of a copy are cleared: the rows are there, the zones know their eras -/
structure Ap (W : World) (base N : Nat) (t : SV) : Prop where
  zone : ∀ (j : Nat) (z : ZV), t.zones[j]? = some z → ∃ B, t.zA = some ⟨B, 0, none⟩ ∧ (base ≤ B ∧ B < N) ∧ W.cell? ⟨B, j * 2 + 1, none⟩ = some (.slice z.A z.eras.length z.c) ∧ W.there B (j * 2) 1
  rules : t.rules.length = 0 ∨ ∃ g, t.rA = some ⟨g, 0, none⟩ ∧ (base ≤ g ∧ g < N) ∧ W.there g 0 (t.rules.length * 11)
  links : t.links.length = 0 ∨ ∃ g, t.kA = some ⟨g, 0, none⟩ ∧ (base ≤ g ∧ g < N) ∧ W.there g 0 (t.links.length * 2)
  eras : ∀ z ∈ t.zones, z.eras.length = 0 ∨ ∃ g, z.A = some ⟨g, 0, none⟩ ∧ (base ≤ g ∧ g < N) ∧ W.there g 0 (z.eras.length * 13)
  ner : ∀ g, t.rA = some ⟨g, 0, none⟩ → t.zA ≠ some ⟨g, 0, none⟩
  nel : ∀ g, t.kA = some ⟨g, 0, none⟩ → t.zA ≠ some ⟨g, 0, none⟩
  nee : ∀ z ∈ t.zones, ∀ g, z.A = some ⟨g, 0, none⟩ → t.zA ≠ some ⟨g, 0, none⟩
theorem Ap.of {W : World} {base : Nat} {s t : SV} (h : CopyOf W base s t) : Ap W base W.heap.size t := by
  refine ⟨fun j z hz => ?_, own_there h.rules.2, own_there h.links.2, fun z hz => ?_, own_ne (by decide) h.rules.2 h.zones.1, own_ne (by decide) h.links.2 h.zones.1, fun z hz => ?_⟩
  · have hj : j < t.zones.length := (List.getElem?_eq_some_iff.1 hz).1
    obtain ⟨g, hA, hg, hth⟩ := (own_there h.zones.1).resolve_left (by omega)
    refine ⟨g, hA, hg, ?_, fun i hi => ?_⟩
    · have hz0 := h.zones.1
      rw [hA] at hz0
      exact hz0.cellAt len_zone hz 1 _ rfl
    · obtain rfl : i = 0 := by omega
      have q := hth (j * 2) (by omega)
      rwa [Nat.zero_add] at q
  · obtain ⟨i, hi⟩ := List.getElem?_of_mem hz
    exact own_there (h.zones.2.eras i z hi)
  · obtain ⟨i, hi⟩ := List.getElem?_of_mem hz
    exact own_ne (by decide) (h.zones.2.eras i z hi) h.zones.1
theorem there_below {W W' : World} {b o n : Nat} (h : W.there b o n) (hb : Below W.heap.size W W') : W'.there b o n := fun j hj => by
  have q := h j hj
  have hlt : b < W.heap.size := World.block_lt_of_cell? W ⟨b, o + j, none⟩ (Option.eq_some_of_isSome q.1)
  exact ⟨by rw [hb.cell (p := ⟨b, o + j, none⟩) hlt]; exact q.1, by rw [hb.frozen (p := ⟨b, o + j, none⟩) hlt]; exact q.2⟩
theorem Ap.below {W W' : World} {base N : Nat} {t : SV} (h : Ap W base N t) (hb : Below W.heap.size W W') : Ap W' base N t := by
  refine ⟨fun j z hz => ?_, h.rules.imp id ?_, h.links.imp id ?_, fun z hz => (h.eras z hz).imp id ?_, h.ner, h.nel, h.nee⟩
  · obtain ⟨B, h1, h2, h3, h4⟩ := h.zone j z hz
    exact ⟨B, h1, h2, (hb.cell (p := ⟨B, j * 2 + 1, none⟩) (World.block_lt_of_cell? W _ h3)).trans h3, there_below h4 hb⟩
  all_goals
    rintro ⟨g, h1, h2, h3⟩
    exact ⟨g, h1, h2, there_below h3 hb⟩
/-- a row is cleared that is not the zones' -/
theorem Ap.cleared {W : World} {base N b : Nat} {t : SV} {A : Option Addr} {vs : List Value} (h : Ap W base N t) (hv : vs = [] ∨ A = some ⟨b, 0, none⟩ ∧ b < N) (hA : ∀ g, A = some ⟨g, 0, none⟩ → t.zA ≠ some ⟨g, 0, none⟩) : Ap (W.setCells b 0 vs) base N t := by
  rcases hv with rfl | ⟨rfl, _⟩
  · exact h
  · refine ⟨fun j z hz => ?_, h.rules.imp id ?_, h.links.imp id ?_, fun z hz => (h.eras z hz).imp id ?_, h.ner, h.nel, h.nee⟩
    · obtain ⟨B, h1, h2, h3, h4⟩ := h.zone j z hz
      refine ⟨B, h1, h2, ?_, World.there_setCells h4 _ _ _⟩
      rw [World.cell?_setCells_out b vs 0 W ⟨B, j * 2 + 1, none⟩ (fun e _ => ?_)]
      · exact h3
      · exact absurd (by rw [h1]; exact congrArg (fun q => some (⟨q, 0, none⟩ : Addr)) e) (hA b rfl)
    all_goals
      rintro ⟨g, h1, h2, h3⟩
      exact ⟨g, h1, h2, World.there_setCells h3 _ _ _⟩
theorem there_set {W : World} {b o n : Nat} (h : W.there b o n) (p : Addr) (hp : p.spot = none) (u : Value) : (W.setCell p u).there b o n := by
  obtain ⟨g, i, s⟩ := p
  cases hp
  exact World.there_setCells h g i [u]
/-- the name of a zone is written -/
theorem Ap.name {W : World} {base N B i : Nat} {t : SV} (h : Ap W base N t) (u : Value) : Ap (W.setCell ⟨B, i * 2, none⟩ u) base N t := by
  refine ⟨fun j z hz => ?_, h.rules.imp id ?_, h.links.imp id ?_, fun z hz => (h.eras z hz).imp id ?_, h.ner, h.nel, h.nee⟩
  · obtain ⟨B', h1, h2, h3, h4⟩ := h.zone j z hz
    refine ⟨B', h1, h2, ?_, there_set h4 _ rfl _⟩
    rw [World.cell?_setCell_other _ _ _ _ (fun e => by injection e with _ e _; omega)]
    exact h3
  all_goals
    rintro ⟨g, h1, h2, h3⟩
    exact ⟨g, h1, h2, there_set h3 _ rfl _⟩
/-- a box that is no row stays while a row is cleared -/
theorem blk_cleared {W : World} {b g N : Nat} {T : TypeId} {cs : Array Value} {A : Option Addr} {vs : List Value} (h : Blk W g T cs) (hv : vs = [] ∨ A = some ⟨b, 0, none⟩ ∧ b < N) (hg : N ≤ g) : Blk (W.setCells b 0 vs) g T cs := by
  rcases hv with rfl | ⟨_, hb⟩
  · exact h
  · have key : ∀ (vs : List Value) (o : Nat) (W : World), Blk W g T cs → Blk (W.setCells b o vs) g T cs := fun vs => by
      induction vs with
      | nil => intro o W h; exact h
      | cons v r ih => intro o W h; exact ih _ _ (h.far (p := ⟨b, o, none⟩) (by show g ≠ b; omega) v)
    exact key vs 0 W h
end Go.Proofs.YtlideagcmhlkeaaDoor

/- The law on regions that draw their order (Rinv), where what is kept may speak of the slots and of which operations are behind us. No function of the program. -/
namespace Go.Proofs.YtlideagcmhlkeaaDoor
open Go
set_option linter.unusedVariables false

section
variable {P : Program} {ops : Array Oper} {Q : Exit → Act → World → Prop}
/-- THE LAW where what is kept (S) speaks of which operations are behind us. Each operation by itself, behind those that must stand ahead of it. fr: the frame by the slots that the region makes; val: the values known ahead; X: what the others leave, by the slots Kx; G: what a step may do to the world. -/
theorem wp_region_invZ {id : Nat} {a : Act} {w : World} (fr : (Nat → Value) → Act) (y0 : Nat → Value) (val : Nat → Option Value) (X : Nat → (Nat → Value) → World → Prop) (Kx : Nat → List Nat) (G : World → World → Prop) (S : (Nat → Value) → (Nat → Bool) → World → Prop)
    (hm : P.follows .mixedOrders = true) (ha : a = fr y0) (hS : S y0 (fun _ => false) w.drew)
    (hlt : ∀ i, i < ops.size → ∀ d ∈ rdeps ops i, d < i)
    (hput : ∀ i d, i < ops.size → rdst ops i = some d → ∀ y v, (fr y).put (some d) v = fr (upd y (some d) v))
    (hloc : ∀ j, j < ops.size → val j = none → ∀ y y' w, (∀ k ∈ Kx j, y k = y' k) → X j y w → X j y' w)
    (hmono : ∀ j, j < ops.size → val j = none → (∃ i, i < ops.size ∧ i ≠ j ∧ i ∉ rdeps ops j) → ∀ y w w', G w w' → X j y w → X j y w')
    (hap : ∀ i j, i < ops.size → j < ops.size → i ≠ j → i ∉ rdeps ops j → ∀ d, rdst ops i = some d → (rdst ops j ≠ some d) ∧ (val j = none → d ∉ Kx j))
    (hstep : ∀ i, i < ops.size → ∀ o, ops[i]? = some o → ∀ y w ex, (ex i = false ∧ (∀ d ∈ rdeps ops i, ex d = true) ∧ ∀ j, ex j = true → ∀ d ∈ rdeps ops j, ex d = true) → S y ex w → (∀ d ∈ rdeps ops i, Left17 ops val X d y w) →
      ∀ K' : Act → World → Prop, Shut (∀ v a' w', a' = (fr y).put o.dst v → G w w' → S (upd y o.dst v) (fun j => if j = i then true else ex j) w' → (val i = some v ∨ (val i = none ∧ X i (upd y o.dst v) w')) → K' a' w') →
        if Region.wanted o (yielded ops (fr y).tmps) = true then Oper.wp P o (fr y) w K' Q else K' ((fr y).put o.dst undef) w)
    (hdone : ∀ y w, S y (fun j => decide (j < ops.size)) w → (∀ j, j < ops.size → Left17 ops val X j y w) → Q .normal (fr y) w) : (Code.region id ops true).wp P Q a w := by
  refine wp_region_any hm ?_
  refine wpAny_inv (fun listed a w => listed.size = ops.size ∧ ∃ y, a = fr y ∧ S y (fun j => listed.getD j false) w ∧ (∀ j, listed.getD j false = true → j < ops.size ∧ Left17 ops val X j y w) ∧ ∀ j, listed.getD j false = true → ∀ d ∈ rdeps ops j, listed.getD d false = true) ?_ ?_ _ _ _ _ ?_ ?_
  · rintro listed a w i ⟨hsz, y, rfl, hSw, hl, hcl⟩ hi
    obtain ⟨h1, h2, h3⟩ := ready_spec hi
    have ho : ops[i]? = some (ops[i]'h1) := Array.getElem?_eq_getElem h1
    refine wpOp_step ho fun K' hK => ?_
    have hfl : listed.getD i false = false := by
      rw [Array.getD_eq_getD_getElem?] at h2 ⊢
      cases e2 : listed[i]? with
      | none => rfl
      | some b => rw [e2] at h2; exact h2
    refine hstep i h1 _ ho y w _ ⟨hfl, h3, hcl⟩ hSw (fun d hd => (hl d (h3 d hd)).2) K' ?_
    intro v a' w' ha' hG hS' hnew
    have hflag : (fun j => (listed.setIfInBounds i true).getD j false) = fun j => if j = i then true else listed.getD j false := by
      funext j
      rw [Array.getD_eq_getD_getElem?, Array.getElem?_setIfInBounds]
      by_cases e : i = j
      · subst e
        rw [if_pos rfl, if_pos (by omega), if_pos rfl]
        rfl
      · rw [if_neg e, if_neg (fun q => e q.symm), Array.getD_eq_getD_getElem?]
    refine hK _ _ ⟨by rw [Array.size_setIfInBounds]; exact hsz, upd y (ops[i]'h1).dst v, ?_, by rw [hflag]; exact hS', ?_, ?_⟩
    · rw [ha']
      cases hd : (ops[i]'h1).dst with
      | none => rfl
      | some d => exact hput i d h1 (by unfold rdst; rw [ho]; exact hd) y v
    · intro j hj
      by_cases hij : j = i
      · subst hij
        refine ⟨h1, ?_⟩
        unfold Left17
        rcases hnew with hv | ⟨hv, hx⟩
        · rw [hv]
          intro d hd
          have hd' : (ops[j]'h1).dst = some d := by unfold rdst at hd; rw [ho] at hd; exact hd
          rw [hd']
          show (if d = d then v else y d) = v
          rw [if_pos rfl]
        · rw [hv]; exact hx
      · have hj' : listed.getD j false = true := by
          rw [Array.getD_eq_getD_getElem?, Array.getElem?_setIfInBounds, if_neg (fun q => hij q.symm)] at hj
          rw [Array.getD_eq_getD_getElem?]; exact hj
        obtain ⟨hjn, hf⟩ := hl j hj'
        have hni : i ∉ rdeps ops j := fun q' => by
          have := hcl j hj' i q'
          rw [Array.getD_eq_getD_getElem?] at this h2
          cases e : listed[i]? with
          | none => rw [e] at this; cases this
          | some b => rw [e] at this h2; simp at this h2; rw [this] at h2; cases h2
        refine ⟨hjn, ?_⟩
        cases hd : (ops[i]'h1).dst with
        | none =>
          unfold Left17 at hf ⊢
          cases hv : val j with
          | some u => rw [hv] at hf; exact hf
          | none => rw [hv] at hf; exact hmono j hjn hv ⟨i, h1, fun q => hij q.symm, hni⟩ y w w' hG hf
        | some d =>
          obtain ⟨a1, a2⟩ := hap i j h1 hjn (fun q => hij q.symm) hni d (by unfold rdst; rw [ho]; exact hd)
          unfold Left17 at hf ⊢
          cases hv : val j with
          | some u =>
            rw [hv] at hf
            intro d' hd'
            have hne : d' ≠ d := fun q => a1 (by rw [hd', q])
            show (if d' = d then v else y d') = u
            rw [if_neg hne]; exact hf d' hd'
          | none =>
            rw [hv] at hf
            refine hloc j hjn hv y _ w' (fun k hk => ?_) (hmono j hjn hv ⟨i, h1, fun q => hij q.symm, hni⟩ y w w' hG hf)
            have hne : k ≠ d := fun q => a2 hv (by rw [← q]; exact hk)
            show y k = if k = d then v else y k
            rw [if_neg hne]
    · intro j hj d hd
      have key : ∀ k, listed.getD k false = true → (listed.setIfInBounds i true).getD k false = true := fun k hk => by
        rw [Array.getD_eq_getD_getElem?] at hk ⊢
        rw [Array.getElem?_setIfInBounds]
        split
        · split
          · rfl
          · rename_i q1 q2; subst q1; rw [Array.getElem?_eq_none (by omega)] at hk; cases hk
        · exact hk
      by_cases hij : j = i
      · subst hij; exact key d (h3 d hd)
      · have hj' : listed.getD j false = true := by
          rw [Array.getD_eq_getD_getElem?, Array.getElem?_setIfInBounds, if_neg (fun q => hij q.symm)] at hj
          rw [Array.getD_eq_getD_getElem?]; exact hj
        exact key d (hcl j hj' d hd)
  · rintro listed a w ⟨hsz, y, rfl, hSw, hl, _⟩ hr
    refine hdone y w ?_ fun j hj => (hl j (all_listed hsz hlt hr j hj)).2
    have e : (fun j => listed.getD j false) = fun j => decide (j < ops.size) := by
      funext j
      by_cases hq : j < ops.size
      · rw [all_listed hsz hlt hr j hq, decide_eq_true hq]
      · rw [Array.getD_eq_getD_getElem?, Array.getElem?_eq_none (by omega), decide_eq_false hq]
        rfl
    rw [e] at hSw
    exact hSw
  · unfold unl
    rw [Array.toList_replicate]
    simp
  · refine ⟨Array.size_replicate, y0, ha, ?_, fun j hj => ?_, fun j hj => ?_⟩
    · have e : (fun j => (Array.replicate ops.size false).getD j false) = fun _ => false := by
        funext j
        rw [Array.getD_eq_getD_getElem?, Array.getElem?_replicate]
        split <;> rfl
      rw [e]
      exact hS
    all_goals
      rw [Array.getD_eq_getD_getElem?, Array.getElem?_replicate] at hj
      split at hj <;> cases hj
/-- a step of the law: operation i alone -/
def StepOkZ (P : Program) (ops : Array Oper) (Q : Exit → Act → World → Prop) (fr : (Nat → Value) → Act) (sh : List (Option Nat × List Nat)) (sp : Nat → Bool) (vals : List Value) (X : Nat → (Nat → Value) → World → Prop) (G : World → World → Prop) (S : (Nat → Value) → (Nat → Bool) → World → Prop) (i : Nat) (o : Oper) : Prop :=
  ∀ y w ex, (ex i = false ∧ (∀ d, (sdeps sh i).contains d = true → ex d = true) ∧ ∀ j, ex j = true → ∀ d, (sdeps sh j).contains d = true → ex d = true) → S y ex w → (∀ d, (sdeps sh i).contains d = true → LeftS sh (valOf sp vals) X d y w) →
    ∀ K' : Act → World → Prop, Shut (∀ v a' w', a' = (fr y).put o.dst v → G w w' → S (upd y o.dst v) (fun j => if j = i then true else ex j) w' → (valOf sp vals i = some v ∨ (valOf sp vals i = none ∧ X i (upd y o.dst v) w')) → K' a' w') →
      if Region.wanted o (yielded ops (fr y).tmps) = true then Oper.wp P o (fr y) w K' Q else K' ((fr y).put o.dst undef) w
def StepsOkZ (P : Program) (ops : Array Oper) (Q : Exit → Act → World → Prop) (fr : (Nat → Value) → Act) (sh : List (Option Nat × List Nat)) (sp : Nat → Bool) (vals : List Value) (X : Nat → (Nat → Value) → World → Prop) (G : World → World → Prop) (S : (Nat → Value) → (Nat → Bool) → World → Prop) (i : Nat) (l : List Oper) : Prop :=
  ∀ k o, l[k]? = some o → StepOkZ P ops Q fr sh sp vals X G S (i + k) o
section
variable {fr : (Nat → Value) → Act} {sh : List (Option Nat × List Nat)} {sp : Nat → Bool} {vals : List Value} {X : Nat → (Nat → Value) → World → Prop} {G : World → World → Prop} {S : (Nat → Value) → (Nat → Bool) → World → Prop}
theorem StepsOkZ.nil {i : Nat} : StepsOkZ P ops Q fr sh sp vals X G S i [] := fun k o h => by simp at h
theorem StepsOkZ.cons {i : Nat} {o : Oper} {l : List Oper} (h : StepOkZ P ops Q fr sh sp vals X G S i o) (hl : StepsOkZ P ops Q fr sh sp vals X G S (i + 1) l) : StepsOkZ P ops Q fr sh sp vals X G S i (o :: l) := fun k o' ho => by
  cases k with
  | zero => rw [List.getElem?_cons_zero] at ho; injection ho with ho; subst ho; exact h
  | succ k =>
    rw [List.getElem?_cons_succ] at ho
    have := hl k o' ho
    rwa [show i + 1 + k = i + (k + 1) by omega] at this
/-- a step whose value is known ahead -/
theorem StepOkZ.known {i : Nat} {o : Oper} (hi : sp i = false) (h : ∀ y w ex, (ex i = false ∧ (∀ d, (sdeps sh i).contains d = true → ex d = true) ∧ ∀ j, ex j = true → ∀ d, (sdeps sh j).contains d = true → ex d = true) → S y ex w → (∀ d, (sdeps sh i).contains d = true → LeftS sh (valOf sp vals) X d y w) →
    ∀ K' : Act → World → Prop, Shut (∀ a' w', a' = (fr y).put o.dst (vals.getD i undef) → G w w' → S (upd y o.dst (vals.getD i undef)) (fun j => if j = i then true else ex j) w' → K' a' w') →
      if Region.wanted o (yielded ops (fr y).tmps) = true then Oper.wp P o (fr y) w K' Q else K' ((fr y).put o.dst undef) w) : StepOkZ P ops Q fr sh sp vals X G S i o :=
  fun y w b hb hS hd K' hK => h y w b hb hS hd K' fun a' w' ha hG hS' => hK _ a' w' ha hG hS' (.inl (by unfold valOf; rw [if_neg (by rw [hi]; decide)]))
/-- a step whose value is not known ahead -/
theorem StepOkZ.other {i : Nat} {o : Oper} (hi : sp i = true) (h : ∀ y w ex, (ex i = false ∧ (∀ d, (sdeps sh i).contains d = true → ex d = true) ∧ ∀ j, ex j = true → ∀ d, (sdeps sh j).contains d = true → ex d = true) → S y ex w → (∀ d, (sdeps sh i).contains d = true → LeftS sh (valOf sp vals) X d y w) →
    ∀ K' : Act → World → Prop, Shut (∀ v a' w', a' = (fr y).put o.dst v → G w w' → S (upd y o.dst v) (fun j => if j = i then true else ex j) w' → X i (upd y o.dst v) w' → K' a' w') →
      if Region.wanted o (yielded ops (fr y).tmps) = true then Oper.wp P o (fr y) w K' Q else K' ((fr y).put o.dst undef) w) : StepOkZ P ops Q fr sh sp vals X G S i o :=
  fun y w b hb hS hd K' hK => h y w b hb hS hd K' fun v a' w' ha hG hS' hx => hK v a' w' ha hG hS' (.inr ⟨by unfold valOf; rw [if_pos hi], hx⟩)
end
/-- THE LAW with one operation that parts the region, by the shape -/
theorem wp_region_shapeZ {id : Nat} {l : List Oper} {Q : Exit → Act → World → Prop} {a : Act} {w : World} (sh : List (Option Nat × List Nat)) (fr : (Nat → Value) → Act) (y0 : Nat → Value) (sp : Nat → Bool) (vals : List Value) (X : Nat → (Nat → Value) → World → Prop) (Kx : Nat → List Nat) (G : World → World → Prop) (S : (Nat → Value) → (Nat → Bool) → World → Prop)
    (hm : P.follows .mixedOrders = true) (hsh : shapeOf l = sh) (hok : shapeOk sh sp Kx = true) (ha : a = fr y0) (hS : S y0 (fun _ => false) w.drew)
    (hput : ∀ d ∈ sh.filterMap (·.1), ∀ y v, (fr y).put (some d) v = fr (upd y (some d) v))
    (hloc : ∀ j, sp j = true → ∀ y y' w, (∀ k ∈ Kx j, y k = y' k) → X j y w → X j y' w)
    (hmono : ∀ j, sp j = true → lastB sh j = false → ∀ y w w', G w w' → X j y w → X j y w')
    (hstep : StepsOkZ P l.toArray Q fr sh sp vals X G S 0 l)
    (hdone : ∀ y w, S y (fun j => decide (j < sh.length)) w → (∀ j, j < sh.length → LeftS sh (valOf sp vals) X j y w) → Q .normal (fr y) w) : (Code.region id l.toArray true).wp P Q a w := by
  have hlen : l.length = sh.length := by rw [← hsh]; unfold shapeOf; rw [List.length_map]
  have hsz : l.toArray.size = sh.length := by rw [List.size_toArray, hlen]
  have hsp : ∀ j, valOf sp vals j = none → sp j = true := fun j h => by
    unfold valOf at h; split at h
    · assumption
    · cases h
  have hok' := hok
  unfold shapeOk at hok'
  rw [List.all_eq_true] at hok'
  refine wp_region_invZ fr y0 (valOf sp vals) X Kx G S hm ha hS ?_ ?_ ?_ ?_ ?_ ?_ ?_
  · intro i hi d hd
    rw [hsz] at hi
    rw [rdeps_shape hsh] at hd
    have := hok' i (List.mem_range.2 hi)
    rw [Bool.and_eq_true, List.all_eq_true] at this
    exact of_decide_eq_true (this.1 d hd)
  · intro i d hi hd y v
    rw [rdst_shape hsh] at hd
    refine hput d (List.mem_filterMap.2 ⟨sh.getD i (none, []), ?_, hd⟩) y v
    rw [hsz] at hi
    rw [List.getD_eq_getElem?_getD, List.getElem?_eq_getElem hi]
    exact List.getElem_mem _
  · intro j _ hv; exact hloc j (hsp j hv)
  · intro j _ hv ⟨i, hi, hij, hni⟩
    refine hmono j (hsp j hv) ?_
    unfold lastB
    rw [List.all_eq_false]
    refine ⟨i, List.mem_range.2 (by rw [← hsz]; exact hi), ?_⟩
    rw [rdeps_shape hsh] at hni
    simp [hij, hni]
  · intro i j hi hj hij hni d hd
    rw [hsz] at hi hj
    rw [rdeps_shape hsh] at hni
    rw [rdst_shape hsh] at hd ⊢
    have := hok' i (List.mem_range.2 hi)
    rw [Bool.and_eq_true, List.all_eq_true, List.all_eq_true] at this
    have qq := this.2 j (List.mem_range.2 hj)
    rw [hd] at qq
    simp only [Bool.or_eq_true, beq_iff_eq, Bool.and_eq_true, bne_iff_ne, Bool.not_eq_true', List.contains_iff_mem] at qq
    rcases qq with (qq | qq) | ⟨q1, q2⟩
    · exact absurd qq hij
    · exact absurd qq hni
    · refine ⟨q1, fun hv hk => ?_⟩
      rcases q2 with q2 | q2
      · rw [hsp j hv] at q2; cases q2
      · rw [List.contains_iff_mem.2 hk] at q2; cases q2
  · intro i hi o ho y w ex hb hSw hd K' hK
    have hs := hstep i o (by rw [List.getElem?_toArray] at ho; exact ho)
    rw [Nat.zero_add] at hs
    exact hs y w ex ⟨hb.1, fun d hd => hb.2.1 d (by rw [rdeps_shape hsh]; exact List.contains_iff_mem.1 hd), fun j hj d hd => hb.2.2 j hj d (by rw [rdeps_shape hsh]; exact List.contains_iff_mem.1 hd)⟩ hSw (fun d hd' => LeftS.of hsh (hd d (by rw [rdeps_shape hsh]; exact List.contains_iff_mem.1 hd'))) K' hK
  · intro y w hSw h
    exact hdone y w (by rw [← hsz]; exact hSw) fun j hj => LeftS.of hsh (h j (by rw [hsz]; exact hj))

end
end Go.Proofs.YtlideagcmhlkeaaDoor
