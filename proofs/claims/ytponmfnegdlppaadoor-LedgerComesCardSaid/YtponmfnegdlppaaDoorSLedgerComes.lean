-- Written by a program of this session (wip/tools/hprint.py, over the kit's printer), not by hand. Lean checks it.
import Derived.Test.YtponmfnegdlppaaDoorMC1
import Derived.Test.YtponmfnegdlppaaDoorMC5
namespace Go.Proofs.YtponmfnegdlppaaDoor.P
open Go.Proofs.YtponmfnegdlppaaDoor.OpenWords Go.RowKit
set_option linter.unusedVariables false
/-- The one pure statement. -/
def LedgerComesPure : Prop := ∀ (a0 : Int) (a1 : Int) (a2 : Int) (a3 : List Int) (a4 : List Int), ((Lit.int .i64 a0).wf = true) → ((Lit.int .i64 a1).wf = true) → ((Lit.int .i64 a2).wf = true) → (a3.length ≤ maxLen ∧ a3.length * 8 ≤ 140737488351232 ∧ ∀ x ∈ a3, (Lit.int .i64 x).wf = true) → (a4.length ≤ maxLen ∧ a4.length * 8 ≤ 140737488351232 ∧ ∀ x ∈ a4, (Lit.int .i64 x).wf = true) → ∃ k, winnowlaw19_LedgerComes.f k a0 a1 a2 a3 a4 = some true
end Go.Proofs.YtponmfnegdlppaaDoor.P
