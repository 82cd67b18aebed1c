-- Written by a program of this session (wip/tools/hprint.py, over the kit's printer), not by hand. Lean checks it.
import Derived.Test.YtghajggnakhobaaOpens
import Derived.Test.YtghajggnakhobaaPf6
namespace Go.Proofs.Ytghajggnakhobaa.P
open Go.Proofs.Ytghajggnakhobaa.OpenWords Go.RowKit
/-- The one pure statement. -/
def CrcRoundPure : Prop := ∀ (a0 : List Int) (a1 : List Int), (a0.length ≤ maxLen ∧ a0.length * 1 ≤ 140737488351232 ∧ ∀ x ∈ a0, (Lit.int .u8 x).wf = true) → (a1.length ≤ maxLen ∧ a1.length * 1 ≤ 140737488351232 ∧ ∀ x ∈ a1, (Lit.int .u8 x).wf = true) → ∃ k, winnowlaw1_CrcRound.f k a0 a1 = some true
end Go.Proofs.Ytghajggnakhobaa.P
