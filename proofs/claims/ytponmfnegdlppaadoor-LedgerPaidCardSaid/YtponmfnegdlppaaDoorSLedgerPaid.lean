-- Written by a program of this session (wip/tools/hprint.py, over the kit's printer), not by hand. Lean checks it.
import Derived.Test.YtponmfnegdlppaaDoorMP1
import Derived.Test.YtponmfnegdlppaaDoorMP19
namespace Go.Proofs.YtponmfnegdlppaaDoor.P
open Go.Proofs.YtponmfnegdlppaaDoor.OpenWords Go.RowKit
set_option linter.unusedVariables false
/-- The one pure statement. -/
def LedgerPaidPure : Prop := ∀ (a0 : Int) (a1 : Int) (a2 : Int) (a3 : List (S58)), ((Lit.int .i64 a0).wf = true) → ((Lit.int .i64 a1).wf = true) → ((Lit.int .i64 a2).wf = true) → (a3.length ≤ maxLen ∧ a3.length * 32 ≤ 140737488351232 ∧ ∀ x ∈ a3, ok58 x) → winnowlaw19_LedgerPaid.f a0 a1 a2 a3 = some true
end Go.Proofs.YtponmfnegdlppaaDoor.P
