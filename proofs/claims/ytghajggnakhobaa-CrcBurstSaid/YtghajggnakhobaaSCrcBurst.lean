-- Written by a program of this session (wip/tools/hprint.py, over the kit's printer), not by hand. Lean checks it.
import Derived.Test.YtghajggnakhobaaOpens
import Derived.Test.YtghajggnakhobaaPf7
namespace Go.Proofs.Ytghajggnakhobaa.P
open Go.Proofs.Ytghajggnakhobaa.OpenWords Go.RowKit
set_option linter.unusedVariables false
/-- The one pure statement. -/
def CrcBurstPure : Prop := ∀ (a0 : List Int) (a1 : Int) (a2 : Int), (a0.length ≤ maxLen ∧ a0.length * 1 ≤ 140737488351232 ∧ ∀ x ∈ a0, (Lit.int .u8 x).wf = true) → ((Lit.int .i64 a1).wf = true) → ((Lit.int .u32 a2).wf = true) → ∃ k, winnowlaw1_CrcBurst.f k a0 a1 a2 = some true
end Go.Proofs.Ytghajggnakhobaa.P
