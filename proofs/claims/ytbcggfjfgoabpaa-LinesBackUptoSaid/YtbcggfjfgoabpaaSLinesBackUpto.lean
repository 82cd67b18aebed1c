-- Written by a program of this session (wip/tools/hprint.py, over the kit's printer), not by hand. Lean checks it.
import Derived.Test.YtbcggfjfgoabpaaMLi1
import Derived.Test.YtbcggfjfgoabpaaMLi7
namespace Go.Proofs.Ytbcggfjfgoabpaa.P
open Go.Proofs.Ytbcggfjfgoabpaa.OpenWords Go.RowKit
set_option linter.unusedVariables false
/-- The one pure statement. -/
def LinesBackPureUpto : Prop := ∀ (a0 : ByteArray), (a0.size ≤ 140737488351232) → ((a0.size + 1) ≤ 1048576) → ∃ k, winnowlaw13_LinesBack.f k a0 = some true
end Go.Proofs.Ytbcggfjfgoabpaa.P
