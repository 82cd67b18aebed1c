-- Written by a program of this session (wip/tools/hprint.py, over the kit's printer), not by hand. Lean checks it.
import Derived.Test.YtljahmnilmjlpaaOpens
import Derived.Test.YtljahmnilmjlpaaHSorts
namespace Go.Proofs.Ytljahmnilmjlpaa.P
open Go.Proofs.Ytljahmnilmjlpaa.OpenWords Go.RowKit
set_option linter.unusedVariables false
/-- The one pure statement. -/
def SortSortsPure : Prop := ∀ (a0 : List (S23)), (a0.length ≤ maxLen ∧ a0.length * 40 ≤ 140737488351232 ∧ ∀ x ∈ a0, ok23 x) → winnowlaw10_SortSorts.f a0 = some true
end Go.Proofs.Ytljahmnilmjlpaa.P
