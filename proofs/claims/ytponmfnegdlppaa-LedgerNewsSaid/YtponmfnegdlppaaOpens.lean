-- Written by a program of this session (wip/tools/hprint.py, over the kit's printer), not by hand. Lean checks it.
import Derived.Test.YtponmfnegdlppaaOpen
import Derived.Test.YtponmfnegdlppaaP0
import Derived.Test.YtponmfnegdlppaaProg
namespace Go.Proofs.Ytponmfnegdlppaa.P
open Go.RowKit Go.Proofs.YtponmfnegdlppaaW.PrintWords Go.Proofs.Ytponmfnegdlppaa.OpenWords
set_option linter.unusedVariables false
end Go.Proofs.Ytponmfnegdlppaa.P
