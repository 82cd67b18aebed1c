-- Written by a program of this session (wip/tools/hprint.py, over the kit's printer), not by hand. Lean checks it.
import Derived.Test.YtbcggfjfgoabpaaMA1
import Derived.Test.YtbcggfjfgoabpaaMA4
namespace Go.Proofs.Ytbcggfjfgoabpaa.P
open Go.Proofs.Ytbcggfjfgoabpaa.OpenWords Go.RowKit
set_option linter.unusedVariables false
/-- The one pure statement. -/
def LinesAllPureUpto : Prop := ∀ (a0 : S23) (a1 : Int), (ok23 a0) → ((Lit.int .i64 a1).wf = true) → ((bk23 a0) + 1 ≤ 1048576) → winnowlaw13_LinesAll.f a0.f0 a0.f1 a1 = some true
end Go.Proofs.Ytbcggfjfgoabpaa.P
