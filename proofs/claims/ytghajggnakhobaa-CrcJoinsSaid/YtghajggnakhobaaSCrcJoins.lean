-- Written by a program of this session (wip/tools/hprint.py, over the kit's printer), not by hand. Lean checks it.
import Derived.Test.YtghajggnakhobaaOpens
import Derived.Test.YtghajggnakhobaaPf3
namespace Go.Proofs.Ytghajggnakhobaa.P
open Go.Proofs.Ytghajggnakhobaa.OpenWords Go.RowKit
set_option linter.unusedVariables false
/-- The one pure statement. -/
def CrcJoinsPure : Prop := ∀ (a0 : Int) (a1 : Int) (a2 : Int), ((Lit.int .u32 a0).wf = true) → ((Lit.int .u32 a1).wf = true) → ((Lit.int .i64 a2).wf = true) → ∃ k, winnowlaw1_CrcJoins.f k a0 a1 a2 = some true
end Go.Proofs.Ytghajggnakhobaa.P
