-- Written by a program of this session (wip/tools/hprint.py, over the kit's printer), not by hand. Lean checks it.
import Derived.Test.YtponmfnegdlppaaDoorMA1
import Derived.Test.YtponmfnegdlppaaDoorMA4
namespace Go.Proofs.YtponmfnegdlppaaDoor.P
open Go.Proofs.YtponmfnegdlppaaDoor.OpenWords Go.RowKit
set_option linter.unusedVariables false
/-- The one pure statement. -/
def LedgerAsksPure : Prop := ∀ (a0 : S24), (ok24 a0) → winnowlaw19_LedgerAsks.f a0.f0 a0.f1 a0.f2 a0.f3 = some true
end Go.Proofs.YtponmfnegdlppaaDoor.P
