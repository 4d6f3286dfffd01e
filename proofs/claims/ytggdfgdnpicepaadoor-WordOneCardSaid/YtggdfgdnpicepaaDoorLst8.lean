/- The lists of the laws, letters in any case (chapter 8). -/
import Derived.Test.YtggdfgdnpicepaaDoorEx8
namespace Go.Proofs.YtggdfgdnpicepaaDoor
open Go.RowKit Go.Proofs
set_option linter.unusedVariables false
set_option linter.unusedSimpArgs false

/-- the functions that find -/
def fnOf : Nat → Nat
  | 0 => 26
  | 1 => 28
  | 2 => 30
  | _ => 32
def listOf (k : Nat) : List (List UInt8) := (P8.lists[k]?.getD ([], 0)).1
def firstOf (k : Nat) : Int := (P8.lists[k]?.getD ([], 0)).2
/-- what is returned as the lists -/
def Lists (W : World) (B g : Nat) : Prop := ∀ k, k < 4 → W.cell? ⟨B, k * 3, none⟩ = some (.slice (some ⟨g + k, 0, none⟩) (listOf k).length (listOf k).length) ∧ W.cell? ⟨B, k * 3 + 1, none⟩ = some (.func (.func (fnOf k)) #[] #[]) ∧ W.cell? ⟨B, k * 3 + 2, none⟩ = some (.int .i64 (firstOf k)) ∧ Rd W (g + k) (wcells (listOf k))
theorem find_call (k : Nat) (hk : k < 4) (s : ByteArray) (W : World) (hs : s.size ≤ 1000000) (hv : Vars8 W) : Calls Tryd.prog (fnOf k) #[.string s] W fun e w' => e = .returned (.tuple #[.int .i64 (P8.num (firstOf k) s.data.toList (listOf k)).1, .int .i64 (P8.num (firstOf k) s.data.toList (listOf k)).2]) ∧ Below W.heap.size W w' := by
  match k, hk with
  | 0, _ => exact line_any s W hs hv
  | 1, _ => exact month_any s W hs hv
  | 2, _ => exact week_any s W hs hv
  | 3, _ => exact to_any s W hs hv
theorem fn_enters (k : Nat) (hk : k < 4) : ∀ (args : Array Value) (w : World), (callFunc (fnOf k) args).run Tryd.prog w = .ok (.enter (fnOf k) args) w := by
  match k, hk with
  | 0, _ => exact enters_of Tryd.func26 (by kernel_rfl) rfl
  | 1, _ => exact enters_of Tryd.func28 (by kernel_rfl) rfl
  | 2, _ => exact enters_of Tryd.func30 (by kernel_rfl) rfl
  | 3, _ => exact enters_of Tryd.func32 (by kernel_rfl) rfl
set_option maxRecDepth 100000 in
set_option maxHeartbeats 4000000 in
theorem lists_any (w : World) : Calls Tryd.prog 38 #[] w fun e w' => e = .returned (.slice (some ⟨w.heap.size + 4, 0, none⟩) 4 4) ∧ Lists w' (w.heap.size + 4) w.heap.size ∧ Below w.heap.size w w' := by
  have h0 := (Cs.new w 9 #[.string ⟨#[114, 117, 108, 101]⟩, .string ⟨#[122, 111, 110, 101]⟩, .string ⟨#[108, 105, 110, 107]⟩, .string ⟨#[115, 104, 105, 102, 116]⟩]).rd
  have h1 := (Cs.new (w.alloc (.cells #[.string ⟨#[114, 117, 108, 101]⟩, .string ⟨#[122, 111, 110, 101]⟩, .string ⟨#[108, 105, 110, 107]⟩, .string ⟨#[115, 104, 105, 102, 116]⟩] 9)) 9 #[.string ⟨#[106, 97, 110, 117, 97, 114, 121]⟩, .string ⟨#[102, 101, 98, 114, 117, 97, 114, 121]⟩, .string ⟨#[109, 97, 114, 99, 104]⟩, .string ⟨#[97, 112, 114, 105, 108]⟩, .string ⟨#[109, 97, 121]⟩, .string ⟨#[106, 117, 110, 101]⟩, .string ⟨#[106, 117, 108, 121]⟩, .string ⟨#[97, 117, 103, 117, 115, 116]⟩, .string ⟨#[115, 101, 112, 116, 101, 109, 98, 101, 114]⟩, .string ⟨#[111, 99, 116, 111, 98, 101, 114]⟩, .string ⟨#[110, 111, 118, 101, 109, 98, 101, 114]⟩, .string ⟨#[100, 101, 99, 101, 109, 98, 101, 114]⟩]).rd
  have h2 := (Cs.new ((w.alloc (.cells #[.string ⟨#[114, 117, 108, 101]⟩, .string ⟨#[122, 111, 110, 101]⟩, .string ⟨#[108, 105, 110, 107]⟩, .string ⟨#[115, 104, 105, 102, 116]⟩] 9)).alloc (.cells #[.string ⟨#[106, 97, 110, 117, 97, 114, 121]⟩, .string ⟨#[102, 101, 98, 114, 117, 97, 114, 121]⟩, .string ⟨#[109, 97, 114, 99, 104]⟩, .string ⟨#[97, 112, 114, 105, 108]⟩, .string ⟨#[109, 97, 121]⟩, .string ⟨#[106, 117, 110, 101]⟩, .string ⟨#[106, 117, 108, 121]⟩, .string ⟨#[97, 117, 103, 117, 115, 116]⟩, .string ⟨#[115, 101, 112, 116, 101, 109, 98, 101, 114]⟩, .string ⟨#[111, 99, 116, 111, 98, 101, 114]⟩, .string ⟨#[110, 111, 118, 101, 109, 98, 101, 114]⟩, .string ⟨#[100, 101, 99, 101, 109, 98, 101, 114]⟩] 9)) 9 #[.string ⟨#[115, 117, 110, 100, 97, 121]⟩, .string ⟨#[109, 111, 110, 100, 97, 121]⟩, .string ⟨#[116, 117, 101, 115, 100, 97, 121]⟩, .string ⟨#[119, 101, 100, 110, 101, 115, 100, 97, 121]⟩, .string ⟨#[116, 104, 117, 114, 115, 100, 97, 121]⟩, .string ⟨#[102, 114, 105, 100, 97, 121]⟩, .string ⟨#[115, 97, 116, 117, 114, 100, 97, 121]⟩]).rd
  have h3 := (Cs.new (((w.alloc (.cells #[.string ⟨#[114, 117, 108, 101]⟩, .string ⟨#[122, 111, 110, 101]⟩, .string ⟨#[108, 105, 110, 107]⟩, .string ⟨#[115, 104, 105, 102, 116]⟩] 9)).alloc (.cells #[.string ⟨#[106, 97, 110, 117, 97, 114, 121]⟩, .string ⟨#[102, 101, 98, 114, 117, 97, 114, 121]⟩, .string ⟨#[109, 97, 114, 99, 104]⟩, .string ⟨#[97, 112, 114, 105, 108]⟩, .string ⟨#[109, 97, 121]⟩, .string ⟨#[106, 117, 110, 101]⟩, .string ⟨#[106, 117, 108, 121]⟩, .string ⟨#[97, 117, 103, 117, 115, 116]⟩, .string ⟨#[115, 101, 112, 116, 101, 109, 98, 101, 114]⟩, .string ⟨#[111, 99, 116, 111, 98, 101, 114]⟩, .string ⟨#[110, 111, 118, 101, 109, 98, 101, 114]⟩, .string ⟨#[100, 101, 99, 101, 109, 98, 101, 114]⟩] 9)).alloc (.cells #[.string ⟨#[115, 117, 110, 100, 97, 121]⟩, .string ⟨#[109, 111, 110, 100, 97, 121]⟩, .string ⟨#[116, 117, 101, 115, 100, 97, 121]⟩, .string ⟨#[119, 101, 100, 110, 101, 115, 100, 97, 121]⟩, .string ⟨#[116, 104, 117, 114, 115, 100, 97, 121]⟩, .string ⟨#[102, 114, 105, 100, 97, 121]⟩, .string ⟨#[115, 97, 116, 117, 114, 100, 97, 121]⟩] 9)) 9 #[.string ⟨#[111, 110, 108, 121]⟩, .string ⟨#[109, 97, 120, 105, 109, 117, 109]⟩]).rd
  have h4 := Cs.new ((((w.alloc (.cells #[.string ⟨#[114, 117, 108, 101]⟩, .string ⟨#[122, 111, 110, 101]⟩, .string ⟨#[108, 105, 110, 107]⟩, .string ⟨#[115, 104, 105, 102, 116]⟩] 9)).alloc (.cells #[.string ⟨#[106, 97, 110, 117, 97, 114, 121]⟩, .string ⟨#[102, 101, 98, 114, 117, 97, 114, 121]⟩, .string ⟨#[109, 97, 114, 99, 104]⟩, .string ⟨#[97, 112, 114, 105, 108]⟩, .string ⟨#[109, 97, 121]⟩, .string ⟨#[106, 117, 110, 101]⟩, .string ⟨#[106, 117, 108, 121]⟩, .string ⟨#[97, 117, 103, 117, 115, 116]⟩, .string ⟨#[115, 101, 112, 116, 101, 109, 98, 101, 114]⟩, .string ⟨#[111, 99, 116, 111, 98, 101, 114]⟩, .string ⟨#[110, 111, 118, 101, 109, 98, 101, 114]⟩, .string ⟨#[100, 101, 99, 101, 109, 98, 101, 114]⟩] 9)).alloc (.cells #[.string ⟨#[115, 117, 110, 100, 97, 121]⟩, .string ⟨#[109, 111, 110, 100, 97, 121]⟩, .string ⟨#[116, 117, 101, 115, 100, 97, 121]⟩, .string ⟨#[119, 101, 100, 110, 101, 115, 100, 97, 121]⟩, .string ⟨#[116, 104, 117, 114, 115, 100, 97, 121]⟩, .string ⟨#[102, 114, 105, 100, 97, 121]⟩, .string ⟨#[115, 97, 116, 117, 114, 100, 97, 121]⟩] 9)).alloc (.cells #[.string ⟨#[111, 110, 108, 121]⟩, .string ⟨#[109, 97, 120, 105, 109, 117, 109]⟩] 9)) 77 #[.slice (some ⟨w.heap.size, 0, none⟩) 4 4, .func (.func 26) #[] #[], .int .i64 1, .slice (some ⟨w.heap.size + 1, 0, none⟩) 12 12, .func (.func 28) #[] #[], .int .i64 1, .slice (some ⟨w.heap.size + 1 + 1, 0, none⟩) 7 7, .func (.func 30) #[] #[], .int .i64 0, .slice (some ⟨w.heap.size + 1 + 1 + 1, 0, none⟩) 2 2, .func (.func 32) #[] #[], .int .i64 1]
  have hb := ((((Below.refl w.heap.size w).alloc (Nat.le_refl _) (.cells #[.string ⟨#[114, 117, 108, 101]⟩, .string ⟨#[122, 111, 110, 101]⟩, .string ⟨#[108, 105, 110, 107]⟩, .string ⟨#[115, 104, 105, 102, 116]⟩] 9)).alloc (by simp) (.cells #[.string ⟨#[106, 97, 110, 117, 97, 114, 121]⟩, .string ⟨#[102, 101, 98, 114, 117, 97, 114, 121]⟩, .string ⟨#[109, 97, 114, 99, 104]⟩, .string ⟨#[97, 112, 114, 105, 108]⟩, .string ⟨#[109, 97, 121]⟩, .string ⟨#[106, 117, 110, 101]⟩, .string ⟨#[106, 117, 108, 121]⟩, .string ⟨#[97, 117, 103, 117, 115, 116]⟩, .string ⟨#[115, 101, 112, 116, 101, 109, 98, 101, 114]⟩, .string ⟨#[111, 99, 116, 111, 98, 101, 114]⟩, .string ⟨#[110, 111, 118, 101, 109, 98, 101, 114]⟩, .string ⟨#[100, 101, 99, 101, 109, 98, 101, 114]⟩] 9)).alloc (by simp; omega) (.cells #[.string ⟨#[115, 117, 110, 100, 97, 121]⟩, .string ⟨#[109, 111, 110, 100, 97, 121]⟩, .string ⟨#[116, 117, 101, 115, 100, 97, 121]⟩, .string ⟨#[119, 101, 100, 110, 101, 115, 100, 97, 121]⟩, .string ⟨#[116, 104, 117, 114, 115, 100, 97, 121]⟩, .string ⟨#[102, 114, 105, 100, 97, 121]⟩, .string ⟨#[115, 97, 116, 117, 114, 100, 97, 121]⟩] 9)).alloc (by simp; omega) (.cells #[.string ⟨#[111, 110, 108, 121]⟩, .string ⟨#[109, 97, 120, 105, 109, 117, 109]⟩] 9) |>.alloc (by simp; omega) (.cells #[.slice (some ⟨w.heap.size, 0, none⟩) 4 4, .func (.func 26) #[] #[], .int .i64 1, .slice (some ⟨w.heap.size + 1, 0, none⟩) 12 12, .func (.func 28) #[] #[], .int .i64 1, .slice (some ⟨w.heap.size + 1 + 1, 0, none⟩) 7 7, .func (.func 30) #[] #[], .int .i64 0, .slice (some ⟨w.heap.size + 1 + 1 + 1, 0, none⟩) 2 2, .func (.func 32) #[] #[], .int .i64 1] 77)
  have e1 : (w.alloc (.cells #[.string ⟨#[114, 117, 108, 101]⟩, .string ⟨#[122, 111, 110, 101]⟩, .string ⟨#[108, 105, 110, 107]⟩, .string ⟨#[115, 104, 105, 102, 116]⟩] 9)).heap.size = w.heap.size + 1 := by simp
  have e2 : ((w.alloc (.cells #[.string ⟨#[114, 117, 108, 101]⟩, .string ⟨#[122, 111, 110, 101]⟩, .string ⟨#[108, 105, 110, 107]⟩, .string ⟨#[115, 104, 105, 102, 116]⟩] 9)).alloc (.cells #[.string ⟨#[106, 97, 110, 117, 97, 114, 121]⟩, .string ⟨#[102, 101, 98, 114, 117, 97, 114, 121]⟩, .string ⟨#[109, 97, 114, 99, 104]⟩, .string ⟨#[97, 112, 114, 105, 108]⟩, .string ⟨#[109, 97, 121]⟩, .string ⟨#[106, 117, 110, 101]⟩, .string ⟨#[106, 117, 108, 121]⟩, .string ⟨#[97, 117, 103, 117, 115, 116]⟩, .string ⟨#[115, 101, 112, 116, 101, 109, 98, 101, 114]⟩, .string ⟨#[111, 99, 116, 111, 98, 101, 114]⟩, .string ⟨#[110, 111, 118, 101, 109, 98, 101, 114]⟩, .string ⟨#[100, 101, 99, 101, 109, 98, 101, 114]⟩] 9)).heap.size = w.heap.size + 2 := by simp
  have e3 : (((w.alloc (.cells #[.string ⟨#[114, 117, 108, 101]⟩, .string ⟨#[122, 111, 110, 101]⟩, .string ⟨#[108, 105, 110, 107]⟩, .string ⟨#[115, 104, 105, 102, 116]⟩] 9)).alloc (.cells #[.string ⟨#[106, 97, 110, 117, 97, 114, 121]⟩, .string ⟨#[102, 101, 98, 114, 117, 97, 114, 121]⟩, .string ⟨#[109, 97, 114, 99, 104]⟩, .string ⟨#[97, 112, 114, 105, 108]⟩, .string ⟨#[109, 97, 121]⟩, .string ⟨#[106, 117, 110, 101]⟩, .string ⟨#[106, 117, 108, 121]⟩, .string ⟨#[97, 117, 103, 117, 115, 116]⟩, .string ⟨#[115, 101, 112, 116, 101, 109, 98, 101, 114]⟩, .string ⟨#[111, 99, 116, 111, 98, 101, 114]⟩, .string ⟨#[110, 111, 118, 101, 109, 98, 101, 114]⟩, .string ⟨#[100, 101, 99, 101, 109, 98, 101, 114]⟩] 9)).alloc (.cells #[.string ⟨#[115, 117, 110, 100, 97, 121]⟩, .string ⟨#[109, 111, 110, 100, 97, 121]⟩, .string ⟨#[116, 117, 101, 115, 100, 97, 121]⟩, .string ⟨#[119, 101, 100, 110, 101, 115, 100, 97, 121]⟩, .string ⟨#[116, 104, 117, 114, 115, 100, 97, 121]⟩, .string ⟨#[102, 114, 105, 100, 97, 121]⟩, .string ⟨#[115, 97, 116, 117, 114, 100, 97, 121]⟩] 9)).heap.size = w.heap.size + 3 := by simp
  have e4 : ((((w.alloc (.cells #[.string ⟨#[114, 117, 108, 101]⟩, .string ⟨#[122, 111, 110, 101]⟩, .string ⟨#[108, 105, 110, 107]⟩, .string ⟨#[115, 104, 105, 102, 116]⟩] 9)).alloc (.cells #[.string ⟨#[106, 97, 110, 117, 97, 114, 121]⟩, .string ⟨#[102, 101, 98, 114, 117, 97, 114, 121]⟩, .string ⟨#[109, 97, 114, 99, 104]⟩, .string ⟨#[97, 112, 114, 105, 108]⟩, .string ⟨#[109, 97, 121]⟩, .string ⟨#[106, 117, 110, 101]⟩, .string ⟨#[106, 117, 108, 121]⟩, .string ⟨#[97, 117, 103, 117, 115, 116]⟩, .string ⟨#[115, 101, 112, 116, 101, 109, 98, 101, 114]⟩, .string ⟨#[111, 99, 116, 111, 98, 101, 114]⟩, .string ⟨#[110, 111, 118, 101, 109, 98, 101, 114]⟩, .string ⟨#[100, 101, 99, 101, 109, 98, 101, 114]⟩] 9)).alloc (.cells #[.string ⟨#[115, 117, 110, 100, 97, 121]⟩, .string ⟨#[109, 111, 110, 100, 97, 121]⟩, .string ⟨#[116, 117, 101, 115, 100, 97, 121]⟩, .string ⟨#[119, 101, 100, 110, 101, 115, 100, 97, 121]⟩, .string ⟨#[116, 104, 117, 114, 115, 100, 97, 121]⟩, .string ⟨#[102, 114, 105, 100, 97, 121]⟩, .string ⟨#[115, 97, 116, 117, 114, 100, 97, 121]⟩] 9)).alloc (.cells #[.string ⟨#[111, 110, 108, 121]⟩, .string ⟨#[109, 97, 120, 105, 109, 117, 109]⟩] 9)).heap.size = w.heap.size + 4 := by simp
  rw [e1] at h1; rw [e2] at h2; rw [e3] at h3; rw [e4] at h4
  have HL : Hid (Lists (((((w.alloc (.cells #[.string ⟨#[114, 117, 108, 101]⟩, .string ⟨#[122, 111, 110, 101]⟩, .string ⟨#[108, 105, 110, 107]⟩, .string ⟨#[115, 104, 105, 102, 116]⟩] 9)).alloc (.cells #[.string ⟨#[106, 97, 110, 117, 97, 114, 121]⟩, .string ⟨#[102, 101, 98, 114, 117, 97, 114, 121]⟩, .string ⟨#[109, 97, 114, 99, 104]⟩, .string ⟨#[97, 112, 114, 105, 108]⟩, .string ⟨#[109, 97, 121]⟩, .string ⟨#[106, 117, 110, 101]⟩, .string ⟨#[106, 117, 108, 121]⟩, .string ⟨#[97, 117, 103, 117, 115, 116]⟩, .string ⟨#[115, 101, 112, 116, 101, 109, 98, 101, 114]⟩, .string ⟨#[111, 99, 116, 111, 98, 101, 114]⟩, .string ⟨#[110, 111, 118, 101, 109, 98, 101, 114]⟩, .string ⟨#[100, 101, 99, 101, 109, 98, 101, 114]⟩] 9)).alloc (.cells #[.string ⟨#[115, 117, 110, 100, 97, 121]⟩, .string ⟨#[109, 111, 110, 100, 97, 121]⟩, .string ⟨#[116, 117, 101, 115, 100, 97, 121]⟩, .string ⟨#[119, 101, 100, 110, 101, 115, 100, 97, 121]⟩, .string ⟨#[116, 104, 117, 114, 115, 100, 97, 121]⟩, .string ⟨#[102, 114, 105, 100, 97, 121]⟩, .string ⟨#[115, 97, 116, 117, 114, 100, 97, 121]⟩] 9)).alloc (.cells #[.string ⟨#[111, 110, 108, 121]⟩, .string ⟨#[109, 97, 120, 105, 109, 117, 109]⟩] 9)).alloc (.cells #[.slice (some ⟨w.heap.size, 0, none⟩) 4 4, .func (.func 26) #[] #[], .int .i64 1, .slice (some ⟨w.heap.size + 1, 0, none⟩) 12 12, .func (.func 28) #[] #[], .int .i64 1, .slice (some ⟨w.heap.size + 1 + 1, 0, none⟩) 7 7, .func (.func 30) #[] #[], .int .i64 0, .slice (some ⟨w.heap.size + 1 + 1 + 1, 0, none⟩) 2 2, .func (.func 32) #[] #[], .int .i64 1] 77)) (w.heap.size + 4) w.heap.size) := Lib.hid (fun k hk => by
    match k, hk with
    | 0, _ => exact ⟨h4.cell 0 _ rfl, h4.cell 1 _ rfl, h4.cell 2 _ rfl, (((h0.alloc _).alloc _).alloc _).alloc _⟩
    | 1, _ => exact ⟨h4.cell 3 _ rfl, h4.cell 4 _ rfl, h4.cell 5 _ rfl, ((h1.alloc _).alloc _).alloc _⟩
    | 2, _ => exact ⟨h4.cell 6 _ rfl, h4.cell 7 _ rfl, h4.cell 8 _ rfl, (h2.alloc _).alloc _⟩
    | 3, _ => exact ⟨h4.cell 9 _ rfl, h4.cell 10 _ rfl, h4.cell 11 _ rfl, h3.alloc _⟩)
  have HB := Lib.hid hb
  clear h0 h1 h2 h3 h4 hb e1 e2 e3 e4
  go_enter Tryd.func38, Tryd.ntmps38
  go_wp2_with fail
  go_ret
  exact ⟨rfl, HL.out, HB.out⟩

/-- the first k letters in any case -/
def upTo (bs : Nat → Bool) (l : List UInt8) (k : Nat) : List UInt8 := (l.take k).mapIdx (fun i c => P8.up (bs i) c) ++ l.drop k
theorem upTo_zero (bs l) : upTo bs l 0 = l := by simp [upTo]
theorem upTo_all (bs l) : upTo bs l l.length = l.mapIdx (fun i c => P8.up (bs i) c) := by simp [upTo]
theorem upTo_len (bs l) (k : Nat) : (upTo bs l k).length = l.length := by simp [upTo]; omega
theorem upTo_get (bs) (l : List UInt8) (k : Nat) (c : UInt8) (h : l[k]? = some c) : (upTo bs l k)[k]? = some c := by
  have hk := (List.getElem?_eq_some_iff.1 h).1
  unfold upTo
  rw [List.getElem?_append_right (by simp; omega)]
  simp only [List.length_mapIdx, List.length_take, Nat.min_eq_left (Nat.le_of_lt hk), Nat.sub_self, List.getElem?_drop, Nat.add_zero]
  exact h
theorem upTo_set (bs) (l : List UInt8) (k : Nat) (c : UInt8) (h : l[k]? = some c) : (upTo bs l k).set k (P8.up (bs k) c) = upTo bs l (k + 1) := by
  have hk := (List.getElem?_eq_some_iff.1 h).1
  unfold upTo
  rw [List.set_append_right _ _ (by simp; omega)]
  simp only [List.length_mapIdx, List.length_take, Nat.min_eq_left (Nat.le_of_lt hk), Nat.sub_self]
  rw [List.take_add_one, h, List.mapIdx_append, List.append_assoc]
  congr 1
  rw [List.drop_eq_getElem_cons hk]
  have : l[k] = c := by rw [List.getElem?_eq_getElem hk] at h; injection h
  simp [this, Nat.min_eq_left (Nat.le_of_lt hk)]
theorem upTo_same (bs) (l : List UInt8) (k : Nat) (c : UInt8) (h : l[k]? = some c) (hc : P8.up (bs k) c = c) : upTo bs l k = upTo bs l (k + 1) := by
  rw [← upTo_set bs l k c h, hc]
  have hk : k < (upTo bs l k).length := by rw [upTo_len]; exact (List.getElem?_eq_some_iff.1 h).1
  apply List.ext_getElem?
  intro j
  by_cases e : k = j
  · subst e; rw [List.getElem?_set_self hk]; exact upTo_get bs l k c h
  · rw [List.getElem?_set_ne e]
theorem up_num (c : UInt8) (h : (97 : Int) ≤ (c.toNat : Int) ∧ (c.toNat : Int) ≤ 122) : ((P8.up true c).toNat : Int) = (c.toNat : Int) - 32 := by
  have key : ∀ n : Fin 256, ((97 : Int) ≤ (n.val : Int) ∧ (n.val : Int) ≤ 122) → ((P8.up true (UInt8.ofNat n.val)).toNat : Int) = (n.val : Int) - 32 := by decide +kernel
  simpa using key ⟨c.toNat, c.toNat_lt⟩ (by simpa using h)
theorem up_stays (c : UInt8) (h : ¬ ((97 : Int) ≤ (c.toNat : Int) ∧ (c.toNat : Int) ≤ 122)) : P8.up true c = c := by
  unfold P8.up
  rw [if_neg]
  rintro ⟨_, h1, h2⟩
  have h3 := UInt8.le_iff_toNat_le.1 h1
  have h4 := UInt8.le_iff_toNat_le.1 h2
  simp at h3 h4
  omega
/-- a word of small letters, in any case, is the word again -/
theorem low_upTo (bs : Nat → Bool) (l : List UInt8) (h : ∀ c ∈ l, 97 ≤ c ∧ c ≤ 122) : (l.mapIdx fun i c => P8.up (bs i) c).map P8.low = l := by
  apply List.ext_getElem?
  intro i
  rw [List.getElem?_map, List.getElem?_mapIdx]
  cases hc : l[i]? with
  | none => rfl
  | some c => simp only [Option.map_some]; rw [P8.low_up _ _ (h c (List.mem_of_getElem? hc))]
/-- the bit of a place -/
def bitAt (bits : Int) (k : Nat) : Bool := decide (Go.bits .and .u16 (bits / 2 ^ (k % 16)) 1 = 1)
set_option maxRecDepth 100000 in
set_option maxHeartbeats 8000000 in
theorem cased_any (l : List UInt8) (bits : Int) (w : World) (hs : l.length ≤ 1000000) (hb : 0 ≤ bits ∧ bits ≤ 65535) :
    Calls Tryd.prog 39 #[.string (str l), .int .u16 bits] w fun e w' => ∃ bs : Nat → Bool, e = .returned (.string (str (l.mapIdx fun i c => P8.up (bs i) c))) ∧ Below w.heap.size w w' := by
  obtain ⟨cap, W0, hcv, hb0, hc0⟩ := bytes_of Tryd.underlying9 Tryd.underlying39 Tryd.underlying5 w (str l)
  rw [str_data] at hc0
  rw [str_size] at hcv
  have HB := Lib.hid hb0; have HC := Lib.hid hc0
  clear hb0 hc0
  have hbs : ∀ k, (bitAt bits k = true ↔ Go.bits .and .u16 (bits / 2 ^ (k % 16)) 1 = 1) := fun k => by unfold bitAt; rw [decide_eq_true_eq]
  have HBS := Lib.hid hbs
  clear hbs
  generalize bitAt bits = bs at HBS
  go_enter Tryd.func39, Tryd.ntmps39
  go_wp2_with fail
  go_loopw [11] (fun i W => ∃ k : Nat, k ≤ l.length ∧ i = .int .i64 k ∧ Cs W w.heap.size (bvs (upTo bs l k)) ∧ Below w.heap.size w W) (fun i _ => l.length - (intOf i).toNat)
  case atStart => exact ⟨0, Nat.zero_le _, rfl, by rw [upTo_zero]; exact HC.out, HB.out⟩
  case round =>
    obtain ⟨k, hk, rfl, hcs, hb⟩ := hrel
    by_cases hlt : k < l.length
    · obtain ⟨c, hc⟩ : ∃ c, l[k]? = some c := ⟨_, List.getElem?_eq_getElem hlt⟩
      have e0 := hcs.cell k _ (bvs_get _ _ _ (upTo_get bs l k c hc))
      have f0 := hcs.frozen k (by rw [bvs_len, upTo_len]; exact hlt)
      have hki : (k : Int) < (l.length : Int) := by omega
      have hm : (k : Int).tmod 16 = ((k % 16 : Nat) : Int) := by rw [Int.tmod_eq_emod_of_nonneg (by omega)]; omega
      have HCS := Lib.hid hcs; have HBB := Lib.hid hb; have HCC := Lib.hid hc
      have hc256 : (c.toNat : Int) ≤ 255 := by have := c.toNat_lt; omega
      have hS0 : bs k = false → P8.up (bs k) c = c := fun h => by rw [h]; unfold P8.up; rw [if_neg (by simp)]
      have hS1 := up_stays c
      have hN := up_num c
      clear hcs hb hc
      by_cases hb1 : Go.bits .and .u16 (bits / 2 ^ (k % 16)) 1 = 1
      · have hbk := (HBS.out k).2 hb1
        by_cases h1 : (97 : Int) ≤ (c.toNat : Int)
        · by_cases h2 : (c.toNat : Int) ≤ 122
          · have HN := Lib.hid (hN ⟨h1, h2⟩)
            have HBK := Lib.hid hbk
            have x1 : IntKind.u8.wrap ((c.toNat : Int) - 32) = (c.toNat : Int) - 32 := u8_id (by omega)
            clear hS0 hS1 hN hbk hc256
            go_wp2_with fail
            go_roundw
            case rel => exact ⟨k + 1, by omega, by go_num, by rw [← upTo_set bs l k c HCC.out, ← bvs_set, HBK.out, HN.out]; exact HCS.out.set_ k _, HBB.out.setCell (p := ⟨w.heap.size, k, none⟩) (Nat.le_refl _) _⟩
            case measure => simp [intOf]; omega
          · have HS : Hid (P8.up (bs k) c = c) := Lib.hid (by rw [hbk]; exact hS1 (fun q => h2 q.2))
            clear hS0 hS1 hN hbk hc256
            go_wp2_with fail
            go_roundw
            case rel => exact ⟨k + 1, by omega, by go_num, by rw [← upTo_same bs l k c HCC.out HS.out]; exact HCS.out, HBB.out⟩
            case measure => simp [intOf]; omega
        · have HS : Hid (P8.up (bs k) c = c) := Lib.hid (by rw [hbk]; exact hS1 (fun q => h1 q.1))
          clear hS0 hS1 hN hbk hc256
          go_wp2_with fail
          go_roundw
          case rel => exact ⟨k + 1, by omega, by go_num, by rw [← upTo_same bs l k c HCC.out HS.out]; exact HCS.out, HBB.out⟩
          case measure => simp [intOf]; omega
      · have HS : Hid (P8.up (bs k) c = c) := Lib.hid (hS0 (by cases h : bs k with | false => rfl | true => exact absurd ((HBS.out k).1 h) hb1))
        clear hS0 hS1 hN hc256
        go_wp2_with fail
        go_roundw
        case rel => exact ⟨k + 1, by omega, by go_num, by rw [← upTo_same bs l k c HCC.out HS.out]; exact HCS.out, HBB.out⟩
        case measure => simp [intOf]; omega
    · obtain rfl : k = l.length := by omega
      rw [upTo_all] at hcs
      have hcb := conv_own (P := Tryd.prog) Tryd.underlying39 Tryd.underlying5 Tryd.underlying9 wr w.heap.size l.length cap (l.mapIdx fun i c => P8.up (bs i) c) (by simp) (fun j u hu => hcs.cell j u hu)
      have HBB := Lib.hid hb
      clear hcs hb
      go_wp2_with fail
      go_ret
      exact ⟨bs, rfl, HBB.out⟩
end Go.Proofs.YtggdfgdnpicepaaDoor
