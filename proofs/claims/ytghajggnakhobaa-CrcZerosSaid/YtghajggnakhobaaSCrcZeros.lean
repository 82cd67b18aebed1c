-- Written by a program of this session (wip/tools/hprint.py, over the kit's printer), not by hand. Lean checks it.
import Derived.Test.YtghajggnakhobaaOpens
import Derived.Test.YtghajggnakhobaaPf9
namespace Go.Proofs.Ytghajggnakhobaa.P
open Go.Proofs.Ytghajggnakhobaa.OpenWords Go.RowKit
/-- The one pure statement. -/
def CrcZerosPure : Prop := ∀ (a0 : Int), ((Lit.int .i64 a0).wf = true) → ∃ k, winnowlaw1_CrcZeros.f k a0 = some true
end Go.Proofs.Ytghajggnakhobaa.P
