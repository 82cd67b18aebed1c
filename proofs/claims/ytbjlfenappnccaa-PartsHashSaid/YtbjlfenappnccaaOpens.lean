-- Written by a program of this session (wip/tools/hprint.py, over the kit's printer), not by hand. Lean checks it.
import Derived.Test.YtbjlfenappnccaaOpen
import Derived.Test.YtbjlfenappnccaaP0
import Derived.Test.YtbjlfenappnccaaProg
namespace Go.Proofs.Ytbjlfenappnccaa.P
open Go.RowKit Go.Proofs.YtbjlfenappnccaaW.PrintWords Go.Proofs.Ytbjlfenappnccaa.OpenWords
set_option linter.unusedVariables false
end Go.Proofs.Ytbjlfenappnccaa.P
