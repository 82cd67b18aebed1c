-- Written by a program of this session (wip/tools/hprint.py, over the kit's printer), not by hand. Lean checks it.
import Derived.Test.YtghajggnakhobaaOpen
import Derived.Test.YtghajggnakhobaaP0
import Derived.Test.YtghajggnakhobaaProg
namespace Go.Proofs.Ytghajggnakhobaa.P
open Go.RowKit Go.Proofs.YtghajggnakhobaaW.PrintWords Go.Proofs.Ytghajggnakhobaa.OpenWords
set_option linter.unusedVariables false
end Go.Proofs.Ytghajggnakhobaa.P
