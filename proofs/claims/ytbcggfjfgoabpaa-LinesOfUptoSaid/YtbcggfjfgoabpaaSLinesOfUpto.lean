-- Written by a program of this session (wip/tools/hprint.py, over the kit's printer), not by hand. Lean checks it.
import Derived.Test.YtbcggfjfgoabpaaOpens
import Derived.Test.YtbcggfjfgoabpaaPf4
namespace Go.Proofs.Ytbcggfjfgoabpaa.P
open Go.Proofs.Ytbcggfjfgoabpaa.OpenWords Go.RowKit
set_option linter.unusedVariables false
/-- The one pure statement. -/
def LinesOfPureUpto : Prop := ∀ (a0 : ByteArray) (a1 : S33), (a0.size ≤ 140737488351232) → (ok33 a1) → ((a0.size + 1) + (bk33 a1) ≤ 1048576) → ∃ k, winnowlaw13_LinesOf.f k a0 a1.f0 a1.f1 = some true
end Go.Proofs.Ytbcggfjfgoabpaa.P
