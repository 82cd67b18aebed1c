-- Written by a program of this session (wip/tools/hprint.py, over the kit's printer), not by hand. Lean checks it.
import Derived.Test.YtponmfnegdlppaaDoorMG1
import Derived.Test.YtponmfnegdlppaaDoorMG5
namespace Go.Proofs.YtponmfnegdlppaaDoor.P
open Go.Proofs.YtponmfnegdlppaaDoor.OpenWords Go.RowKit
set_option linter.unusedVariables false
/-- The one pure statement. -/
def LedgerBeginsPure : Prop := ∀ (a0 : S24) (a1 : S29), (ok24 a0) → (ok29 a1) → winnowlaw19_LedgerBegins.f a0.f0 a0.f1 a0.f2 a0.f3 a1.f0 a1.f1 = some true
end Go.Proofs.YtponmfnegdlppaaDoor.P
