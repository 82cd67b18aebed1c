-- Written by a program of this session (wip/tools/hprint.py, over the kit's printer), not by hand. Lean checks it.
import Derived.Test.YtghajggnakhobaaOpens
import Derived.Test.YtghajggnakhobaaPf11
namespace Go.Proofs.Ytghajggnakhobaa.P
open Go.Proofs.Ytghajggnakhobaa.OpenWords Go.RowKit
/-- The one pure statement. -/
def CrcFarPure : Prop := ∀ (a0 : Int) (a1 : Int) (a2 : Int) (a3 : Int) (a4 : Int), ((Lit.int .u32 a0).wf = true) → ((Lit.int .u32 a1).wf = true) → ((Lit.int .u32 a2).wf = true) → ((Lit.int .i64 a3).wf = true) → ((Lit.int .i64 a4).wf = true) → ∃ k, winnowlaw1_CrcFar.f k a0 a1 a2 a3 a4 = some true
end Go.Proofs.Ytghajggnakhobaa.P
