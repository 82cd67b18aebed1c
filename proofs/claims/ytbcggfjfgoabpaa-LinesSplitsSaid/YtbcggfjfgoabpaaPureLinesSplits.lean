/- Lines: Splits answers the document's splits of any text, at any places, or the error; and again, when the same list holds other places. -/
import Derived.Test.YtbcggfjfgoabpaaSLinesSplits
namespace Go.Proofs.Ytbcggfjfgoabpaa.P
open Go.RowKit Go.Proofs.YtbcggfjfgoabpaaW.PrintWords Go.Proofs.YtbcggfjfgoabpaaW.PrintLast

theorem LinesSplits_pure : LinesSplitsPure := by
  intro t l h1 h2
  unfold winnowlaw13_LinesSplits.f
  rw [if_pos ⟨by have := h2.2.1; omega, h1⟩]
end Go.Proofs.Ytbcggfjfgoabpaa.P
