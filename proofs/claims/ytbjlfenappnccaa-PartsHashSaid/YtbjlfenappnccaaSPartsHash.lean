-- Written by a program of this session (wip/tools/hprint.py, over the kit's printer), not by hand. Lean checks it.
import Derived.Test.YtbjlfenappnccaaOpens
import Derived.Test.YtbjlfenappnccaaPf3
namespace Go.Proofs.Ytbjlfenappnccaa.P
open Go.Proofs.Ytbjlfenappnccaa.OpenWords Go.RowKit
set_option linter.unusedVariables false
/-- The one pure statement. -/
def PartsHashPure : Prop := ∀ (a0 : ByteArray) (a1 : Int), (a0.size ≤ 140737488351232) → ((Lit.int .i64 a1).wf = true) → winnowlaw14_PartsHash.f a0 a1 = some true
end Go.Proofs.Ytbjlfenappnccaa.P
