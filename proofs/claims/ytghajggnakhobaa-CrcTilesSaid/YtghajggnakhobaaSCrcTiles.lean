-- Written by a program of this session (wip/tools/hprint.py, over the kit's printer), not by hand. Lean checks it.
import Derived.Test.YtghajggnakhobaaOpens
import Derived.Test.YtghajggnakhobaaHTiles
namespace Go.Proofs.Ytghajggnakhobaa.P
open Go.Proofs.Ytghajggnakhobaa.OpenWords Go.RowKit
set_option linter.unusedVariables false
/-- The one pure statement. -/
def CrcTilesPure : Prop := ∀ (a0 : List Int), (a0.length ≤ maxLen ∧ a0.length * 1 ≤ 140737488351232 ∧ ∀ x ∈ a0, (Lit.int .u8 x).wf = true) → winnowlaw1_CrcTiles.f a0 = some true
end Go.Proofs.Ytghajggnakhobaa.P
