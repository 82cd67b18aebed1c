-- Written by a program of this session (wip/tools/hprint.py, over the kit's printer), not by hand. Lean checks it.
import Derived.Test.YtbcggfjfgoabpaaMLi1
import Derived.Test.YtbcggfjfgoabpaaMLi6
namespace Go.Proofs.Ytbcggfjfgoabpaa.P
open Go.Proofs.Ytbcggfjfgoabpaa.OpenWords Go.RowKit
set_option linter.unusedVariables false
/-- The one pure statement. -/
def LinesTouchPure : Prop := ∀ (a0 : ByteArray) (a1 : Int) (a2 : Int) (a3 : Int), (a0.size ≤ 140737488351232) → ((Lit.int .i64 a1).wf = true) → ((Lit.int .i64 a2).wf = true) → ((Lit.int .i64 a3).wf = true) → ∃ k, winnowlaw13_LinesTouch.f k a0 a1 a2 a3 = some true
end Go.Proofs.Ytbcggfjfgoabpaa.P
