/- What the rows' list of variables gives the walks of chapter 8. -/
import Derived.Test.YtggdfgdnpicepaaDoorRows
import Derived.Test.YtggdfgdnpicepaaDoorWrd8e
import Derived.Lib.LaidTab
import Derived.Stop.LaidErr
import Derived.OpenShut
import Derived.ChangeArms
namespace Go.Proofs.YtggdfgdnpicepaaDoor
open Go.RowKit
set_option linter.unusedVariables false

theorem cStr8 : Tryd.prog.cellsOf 9 = 1 := by kernel_rfl
/-- an array of strings, each read as listed -/
theorem strs_of {H : Type} {enc : TypeId × Value → H} {w : World} {base : Nat} {sp : Nat → Bool} {held : Bool} {fuel n : Nat} {t : TypeId} {cs : List Value} {L : List (List UInt8)} {p : List MemPlace} (ht : Tryd.prog.underlying t = some (.array n 9)) (hc : Tryd.prog.cellsOf t = n) (hn : L.length = n)
    (h : DataW.trod enc Tryd.prog w base sp held fuel t cs = some (.agg (L.map fun s => .lit (.string s)), p)) : cs = wcells L := by
  obtain ⟨xs, m, _, hx, hcl, hxl, hel⟩ := DataW.trod_array ht h
  rw [hc] at hcl
  rw [cStr8] at hel
  have hx1 : L.map (fun s => (DataW.lit (.string s) : DataW H)) = xs.map (·.1) := by injection (Prod.mk.inj hx).1
  apply List.ext_getElem?
  intro i
  by_cases hi : i < n
  · have hiL : i < L.length := by omega
    have hic : i < cs.length := by omega
    have hix : i < xs.length := by omega
    have h1 := hel i hi
    rw [List.getElem?_eq_getElem hix] at h1
    obtain ⟨s1, e1, q1, _⟩ := DataW.trod_string Tryd.underlying9 h1
    have hd : cs.drop (i * 1) = cs[i] :: cs.drop (i + 1) := by rw [Nat.mul_one]; exact List.drop_eq_getElem_cons hic
    rw [hd] at e1
    have e2 : cs[i] = .string s1 := (List.cons.inj e1).1
    have h2 := congrArg (fun l => l[i]?) hx1
    simp only [List.getElem?_map, List.getElem?_eq_getElem hiL, List.getElem?_eq_getElem hix, Option.map_some] at h2
    rw [q1] at h2
    have h3 := Lit.string.inj (DataW.lit.inj (Option.some.inj h2))
    unfold wcells
    rw [List.getElem?_map, List.getElem?_eq_getElem hiL, List.getElem?_eq_getElem hic, e2]
    show some (Value.string s1) = some (Value.string (str L[i]))
    rw [h3]
    rfl
  · rw [List.getElem?_eq_none (by omega), List.getElem?_eq_none (by unfold wcells; rw [List.length_map]; omega)]
theorem g_lines : Tryd.prog.globalNamed "analemma/word.lines" = some 1 := by kernel_rfl
theorem t_lines : (Tryd.prog.globals[1]?).map (·.type) = some 114 := by kernel_rfl
theorem c_lines : Tryd.prog.cellsOf 114 = 4 := by kernel_rfl
theorem lines_of {W : World} {rest : List (String × DataW Unit)} (h : laidMet Tryd.prog (("analemma/word.lines", Rows.laid_analemma_word_lines) :: rest) W) : Rd W 1 (wcells P8.lines) := by
  obtain ⟨ps, ⟨g', t', cs, fuel, p, q, hg', ht', hvar, hd, _, _⟩, _⟩ := h
  obtain rfl := Option.some.inj (g_lines.symm.trans hg')
  obtain rfl := Option.some.inj (t_lines.symm.trans ht')
  obtain ⟨cl⟩ := cs
  have e : cl = wcells P8.lines := strs_of (L := P8.lines) Tryd.underlying114 c_lines rfl hd
  unfold World.var? at hvar
  simp only [g_lines, Option.bind_some] at hvar
  split at hvar
  · rename_i cs' t fz hh
    refine ⟨cs', t, fz, hh, fun j _ => ?_⟩
    have e2 := Option.some.inj hvar
    rw [e2, ← e]
    exact List.getElem?_toArray ..
  · cases hvar
theorem g_months : Tryd.prog.globalNamed "analemma/word.months" = some 2 := by kernel_rfl
theorem t_months : (Tryd.prog.globals[2]?).map (·.type) = some 118 := by kernel_rfl
theorem c_months : Tryd.prog.cellsOf 118 = 12 := by kernel_rfl
theorem months_of {W : World} {rest : List (String × DataW Unit)} (h : laidMet Tryd.prog (("analemma/word.months", Rows.laid_analemma_word_months) :: rest) W) : Rd W 2 (wcells P8.months) := by
  obtain ⟨ps, ⟨g', t', cs, fuel, p, q, hg', ht', hvar, hd, _, _⟩, _⟩ := h
  obtain rfl := Option.some.inj (g_months.symm.trans hg')
  obtain rfl := Option.some.inj (t_months.symm.trans ht')
  obtain ⟨cl⟩ := cs
  have e : cl = wcells P8.months := strs_of (L := P8.months) Tryd.underlying118 c_months rfl hd
  unfold World.var? at hvar
  simp only [g_months, Option.bind_some] at hvar
  split at hvar
  · rename_i cs' t fz hh
    refine ⟨cs', t, fz, hh, fun j _ => ?_⟩
    have e2 := Option.some.inj hvar
    rw [e2, ← e]
    exact List.getElem?_toArray ..
  · cases hvar
theorem g_weeks : Tryd.prog.globalNamed "analemma/word.weeks" = some 3 := by kernel_rfl
theorem t_weeks : (Tryd.prog.globals[3]?).map (·.type) = some 119 := by kernel_rfl
theorem c_weeks : Tryd.prog.cellsOf 119 = 7 := by kernel_rfl
theorem weeks_of {W : World} {rest : List (String × DataW Unit)} (h : laidMet Tryd.prog (("analemma/word.weeks", Rows.laid_analemma_word_weeks) :: rest) W) : Rd W 3 (wcells P8.weeks) := by
  obtain ⟨ps, ⟨g', t', cs, fuel, p, q, hg', ht', hvar, hd, _, _⟩, _⟩ := h
  obtain rfl := Option.some.inj (g_weeks.symm.trans hg')
  obtain rfl := Option.some.inj (t_weeks.symm.trans ht')
  obtain ⟨cl⟩ := cs
  have e : cl = wcells P8.weeks := strs_of (L := P8.weeks) Tryd.underlying119 c_weeks rfl hd
  unfold World.var? at hvar
  simp only [g_weeks, Option.bind_some] at hvar
  split at hvar
  · rename_i cs' t fz hh
    refine ⟨cs', t, fz, hh, fun j _ => ?_⟩
    have e2 := Option.some.inj hvar
    rw [e2, ← e]
    exact List.getElem?_toArray ..
  · cases hvar
theorem g_years : Tryd.prog.globalNamed "analemma/word.years" = some 4 := by kernel_rfl
theorem t_years : (Tryd.prog.globals[4]?).map (·.type) = some 120 := by kernel_rfl
theorem c_years : Tryd.prog.cellsOf 120 = 2 := by kernel_rfl
theorem years_of {W : World} {rest : List (String × DataW Unit)} (h : laidMet Tryd.prog (("analemma/word.years", Rows.laid_analemma_word_years) :: rest) W) : Rd W 4 (wcells P8.years) := by
  obtain ⟨ps, ⟨g', t', cs, fuel, p, q, hg', ht', hvar, hd, _, _⟩, _⟩ := h
  obtain rfl := Option.some.inj (g_years.symm.trans hg')
  obtain rfl := Option.some.inj (t_years.symm.trans ht')
  obtain ⟨cl⟩ := cs
  have e : cl = wcells P8.years := strs_of (L := P8.years) Tryd.underlying120 c_years rfl hd
  unfold World.var? at hvar
  simp only [g_years, Option.bind_some] at hvar
  split at hvar
  · rename_i cs' t fz hh
    refine ⟨cs', t, fz, hh, fun j _ => ?_⟩
    have e2 := Option.some.inj hvar
    rw [e2, ← e]
    exact List.getElem?_toArray ..
  · cases hvar
theorem vars8_of_laid {W : World} (h : laidMetH Tryd.prog Rows.wordFindsRow.laid W) : Vars8 W := by
  have h0 : laidMet Tryd.prog Rows.wordFindsRow.laid W := h
  have h1 := h0.tail
  have h2 := h1.tail
  have h3 := h2.tail
  have h4 := h3.tail
  exact ⟨lines_of h1, months_of h2, weeks_of h3, years_of h4⟩
end Go.Proofs.YtggdfgdnpicepaaDoor
