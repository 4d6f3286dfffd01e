/- Sources as values: rules, eras, zones, links; where their cells lie. No function of the program. -/
import Derived.Test.YtmhciidliicheaaDoorRules
import Derived.Test.YtmhciidliicheaaDoorSlices
namespace Go.Proofs.YtmhciidliicheaaDoor
open Go.RowKit
set_option linter.unusedVariables false

/-- an era's cells -/
structure EV where
  off : Int
  kind : Int
  save : Int
  set : ByteArray
  fmt : ByteArray
  ui : Bool
  uy : Int
  um : Int
  dk : Int
  dw : Int
  dd : Int
  asec : Int
  ab : Int
def EV.cells (e : EV) : List Value := [.int .i64 e.off, .int .i64 e.kind, .int .i64 e.save, .string e.set, .string e.fmt, .bool e.ui, .int .i64 e.uy, .int .i64 e.um, .int .i64 e.dk, .int .i64 e.dw, .int .i64 e.dd, .int .i64 e.asec, .int .i64 e.ab]
/-- a link's cells -/
structure KV where
  target : ByteArray
  name : ByteArray
def KV.cells (k : KV) : List Value := [.string k.target, .string k.name]
/-- a zone's cells, and its eras -/
structure ZV where
  name : ByteArray
  A : Option Addr
  c : Nat
  eras : List EV
def ZV.cells (z : ZV) : List Value := [.string z.name, .slice z.A z.eras.length z.c]
/-- a source's cells, and its parts -/
structure SV where
  rA : Option Addr
  rc : Nat
  rules : List RV
  zA : Option Addr
  zc : Nat
  zones : List ZV
  kA : Option Addr
  kc : Nat
  links : List KV
  hA : Option Addr
  hc : Nat
  shifts : List ByteArray
def SV.agg (s : SV) : Array Value := #[.slice s.rA s.rules.length s.rc, .slice s.zA s.zones.length s.zc, .slice s.kA s.links.length s.kc, .slice s.hA s.shifts.length s.hc]
structure SrcIn (w : World) (s : SV) : Prop where
  rules : CellsIn 11 RV.cells w s.rA s.rules
  zones : CellsIn 2 ZV.cells w s.zA s.zones
  links : CellsIn 2 KV.cells w s.kA s.links
  shifts : CellsIn 1 (fun b : ByteArray => [Value.string b]) w s.hA s.shifts
  eras : ∀ z ∈ s.zones, CellsIn 13 EV.cells w z.A z.eras
theorem SrcIn.below {w w' : World} {s : SV} (h : SrcIn w s) (hb : Below w.heap.size w w') : SrcIn w' s :=
  ⟨h.rules.below hb, h.zones.below hb, h.links.below hb, h.shifts.below hb, fun z hz => (h.eras z hz).below hb⟩
/-- the cells of the element at a place -/
theorem CellsIn.at_ {α : Type} {m : Nat} {f : α → List Value} {w : World} {A : Option Addr} {L : List α} (h : CellsIn m f w A L) (k : Nat) (r : α) (hr : L[k]? = some r) :
    ∃ b o, A = some ⟨b, o, none⟩ ∧ b < w.heap.size ∧ ∀ j u, (f r)[j]? = some u → w.cell? ⟨b, o + k * m + j, none⟩ = some u := h k r hr
end Go.Proofs.YtmhciidliicheaaDoor
