-- Written by a program of this session (wip/tools/hprint.py, over the kit's printer), not by hand. Lean checks it.
import Derived.Test.YtbjlfenappnccaaMB1
import Derived.Test.YtbjlfenappnccaaMB8
namespace Go.Proofs.Ytbjlfenappnccaa.P
open Go.Proofs.Ytbjlfenappnccaa.OpenWords Go.RowKit
set_option linter.unusedVariables false
/-- The one pure statement. -/
def PartsBoundsPure : Prop := ∀ (a0 : List ByteArray) (a1 : Int), (a0.length ≤ maxLen ∧ a0.length * 16 ≤ 140737488351232 ∧ ∀ x ∈ a0, x.size ≤ 140737488351232) → ((Lit.int .i64 a1).wf = true) → winnowlaw14_PartsBounds.f a0 a1 = some true
end Go.Proofs.Ytbjlfenappnccaa.P
