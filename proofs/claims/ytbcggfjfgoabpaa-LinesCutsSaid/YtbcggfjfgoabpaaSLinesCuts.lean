-- Written by a program of this session (wip/tools/hprint.py, over the kit's printer), not by hand. Lean checks it.
import Derived.Test.YtbcggfjfgoabpaaMLi1
import Derived.Test.YtbcggfjfgoabpaaMLi5
namespace Go.Proofs.Ytbcggfjfgoabpaa.P
open Go.Proofs.Ytbcggfjfgoabpaa.OpenWords Go.RowKit
set_option linter.unusedVariables false
/-- The one pure statement. -/
def LinesCutsPure : Prop := ∀ (a0 : Int) (a1 : List Int), ((Lit.int .i64 a0).wf = true) → (a1.length ≤ maxLen ∧ a1.length * 8 ≤ 140737488351232 ∧ ∀ x ∈ a1, (Lit.int .i64 x).wf = true) → winnowlaw13_LinesCuts.f a0 a1 = some true
end Go.Proofs.Ytbcggfjfgoabpaa.P
