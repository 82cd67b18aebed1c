-- Written by a program of this session (wip/tools/hprint.py, over the kit's printer), not by hand. Lean checks it.
import Derived.Test.YtljahmnilmjlpaaOpens
import Derived.Test.YtljahmnilmjlpaaHBounds
namespace Go.Proofs.Ytljahmnilmjlpaa.P
open Go.Proofs.Ytljahmnilmjlpaa.OpenWords Go.RowKit
set_option linter.unusedVariables false
/-- The one pure statement. -/
def SortBoundsPure : Prop := ∀ (a0 : Int) (a1 : List (S23)), ((Lit.int .i64 a0).wf = true) → (a1.length ≤ maxLen ∧ a1.length * 40 ≤ 140737488351232 ∧ ∀ x ∈ a1, ok23 x) → winnowlaw10_SortBounds.f a0 a1 = some true
end Go.Proofs.Ytljahmnilmjlpaa.P
