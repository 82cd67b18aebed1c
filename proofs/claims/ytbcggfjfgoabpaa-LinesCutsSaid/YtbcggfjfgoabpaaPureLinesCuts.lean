/- Lines: Cut answers the document's pieces of any length, at any places, or the error; and again, when the same list holds other places. -/
import Derived.Test.YtbcggfjfgoabpaaSLinesCuts
namespace Go.Proofs.Ytbcggfjfgoabpaa.P
open Go.RowKit Go.Proofs.YtbcggfjfgoabpaaW.PrintWords Go.Proofs.YtbcggfjfgoabpaaW.PrintLast

theorem LinesCuts_pure : LinesCutsPure := by
  intro n l h1 h2
  unfold winnowlaw13_LinesCuts.f
  rw [if_pos (by have := h2.2.1; omega)]
end Go.Proofs.Ytbcggfjfgoabpaa.P
