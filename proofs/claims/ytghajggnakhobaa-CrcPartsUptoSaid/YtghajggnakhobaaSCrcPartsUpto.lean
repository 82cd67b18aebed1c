-- Written by a program of this session (wip/tools/hprint.py, over the kit's printer), not by hand. Lean checks it.
import Derived.Test.YtghajggnakhobaaOpens
import Derived.Test.YtghajggnakhobaaPf12
namespace Go.Proofs.Ytghajggnakhobaa.P
open Go.Proofs.Ytghajggnakhobaa.OpenWords Go.RowKit
set_option linter.unusedVariables false
/-- The one pure statement. -/
def CrcPartsPureUpto : Prop := ∀ (a0 : List Int) (a1 : List Int) (a2 : List Int), (a0.length ≤ maxLen ∧ a0.length * 1 ≤ 140737488351232 ∧ ∀ x ∈ a0, (Lit.int .u8 x).wf = true) → (a1.length ≤ maxLen ∧ a1.length * 1 ≤ 140737488351232 ∧ ∀ x ∈ a1, (Lit.int .u8 x).wf = true) → (a2.length ≤ maxLen ∧ a2.length * 1 ≤ 140737488351232 ∧ ∀ x ∈ a2, (Lit.int .u8 x).wf = true) → (((a0.map fun x => 1).sum + 1) + ((a1.map fun x => 1).sum + 1) + ((a2.map fun x => 1).sum + 1) ≤ 1048576) → ∃ k, winnowlaw1_CrcParts.f k a0 a1 a2 = some true
end Go.Proofs.Ytghajggnakhobaa.P
