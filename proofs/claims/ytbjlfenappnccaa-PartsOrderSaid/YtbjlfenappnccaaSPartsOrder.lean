-- Written by a program of this session (wip/tools/hprint.py, over the kit's printer), not by hand. Lean checks it.
import Derived.Test.YtbjlfenappnccaaMO1
import Derived.Test.YtbjlfenappnccaaMO7
namespace Go.Proofs.Ytbjlfenappnccaa.P
open Go.Proofs.Ytbjlfenappnccaa.OpenWords Go.RowKit
set_option linter.unusedVariables false
/-- The one pure statement. -/
def PartsOrderPure : Prop := ∀ (a0 : List ByteArray) (a1 : Int) (a2 : List ByteArray), (a0.length ≤ maxLen ∧ a0.length * 16 ≤ 140737488351232 ∧ ∀ x ∈ a0, x.size ≤ 140737488351232) → ((Lit.int .i64 a1).wf = true) → (a2.length ≤ maxLen ∧ a2.length * 16 ≤ 140737488351232 ∧ ∀ x ∈ a2, x.size ≤ 140737488351232) → winnowlaw14_PartsOrder.f a0 a1 a2 = some true
end Go.Proofs.Ytbjlfenappnccaa.P
