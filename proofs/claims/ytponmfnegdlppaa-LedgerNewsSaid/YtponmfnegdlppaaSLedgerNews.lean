-- Written by a program of this session (wip/tools/hprint.py, over the kit's printer), not by hand. Lean checks it.
import Derived.Test.YtponmfnegdlppaaOpens
import Derived.Test.YtponmfnegdlppaaHNews
namespace Go.Proofs.Ytponmfnegdlppaa.P
open Go.Proofs.Ytponmfnegdlppaa.OpenWords Go.RowKit
set_option linter.unusedVariables false
/-- The one pure statement. -/
def LedgerNewsPure : Prop := ∀ (a0 : Int) (a1 : Int) (a2 : Int), ((Lit.int .i64 a0).wf = true) → ((Lit.int .i64 a1).wf = true) → ((Lit.int .i64 a2).wf = true) → winnowlaw19_LedgerNews.f a0 a1 a2 = some true
end Go.Proofs.Ytponmfnegdlppaa.P
