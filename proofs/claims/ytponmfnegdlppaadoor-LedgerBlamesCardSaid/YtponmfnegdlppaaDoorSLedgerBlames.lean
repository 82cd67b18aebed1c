-- Written by a program of this session (wip/tools/hprint.py, over the kit's printer), not by hand. Lean checks it.
import Derived.Test.YtponmfnegdlppaaDoorMB1
import Derived.Test.YtponmfnegdlppaaDoorMB4
namespace Go.Proofs.YtponmfnegdlppaaDoor.P
open Go.Proofs.YtponmfnegdlppaaDoor.OpenWords Go.RowKit
set_option linter.unusedVariables false
/-- The one pure statement. -/
def LedgerBlamesPure : Prop := ∀ (a0 : S24) (a1 : Int) (a2 : Int) (a3 : Int), (ok24 a0) → ((Lit.int .i64 a1).wf = true) → ((Lit.int .i64 a2).wf = true) → ((Lit.int .i64 a3).wf = true) → winnowlaw19_LedgerBlames.f a0.f0 a0.f1 a0.f2 a0.f3 a1 a2 a3 = some true
end Go.Proofs.YtponmfnegdlppaaDoor.P
