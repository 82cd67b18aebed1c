-- Written by a program of this session (wip/tools/hprint.py, over the kit's printer), not by hand. Lean checks it.
import Derived.Test.YtghajggnakhobaaOpens
import Derived.Test.YtghajggnakhobaaHRunning
namespace Go.Proofs.Ytghajggnakhobaa.P
open Go.Proofs.Ytghajggnakhobaa.OpenWords Go.RowKit
set_option linter.unusedVariables false
/-- The one pure statement. -/
def CrcRunningPure : Prop := ∀ (a0 : List (S52)), (a0.length ≤ maxLen ∧ a0.length * 40 ≤ 140737488351232 ∧ ∀ x ∈ a0, ok52 x) → winnowlaw1_CrcRunning.f a0 = some true
end Go.Proofs.Ytghajggnakhobaa.P
