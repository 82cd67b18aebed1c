-- Written by a program of this session (wip/tools/hprint.py, over the kit's printer), not by hand. Lean checks it.
import Derived.Test.YtbcggfjfgoabpaaOpen
import Derived.Test.YtbcggfjfgoabpaaP0
import Derived.Test.YtbcggfjfgoabpaaProg
namespace Go.Proofs.Ytbcggfjfgoabpaa.P
open Go.RowKit Go.Proofs.YtbcggfjfgoabpaaW.PrintWords Go.Proofs.Ytbcggfjfgoabpaa.OpenWords
set_option linter.unusedVariables false
def ok33 (x : S33) : Prop := ((Lit.int .i64 x.f0).wf = true) ∧ (Lit.int .i64 x.f1).wf = true
def bk33 (x : S33) : Nat := (1 + 1) + 1
instance : Inhabited S33 := ⟨z33⟩
theorem opens33 : Opens Try.prog 33 k33 ok33 bk33 :=
  opens_struct (fun x : S33 => (x.f0, x.f1)) (fun a => ⟨a.1, a.2⟩) (fun _ => rfl) Try.underlying33 (by kernel_rfl) (opensF_cons (opens_int Try.underlying3 (by kernel_rfl)) rfl (opensF_one (opens_int Try.underlying3 (by kernel_rfl))))
end Go.Proofs.Ytbcggfjfgoabpaa.P
