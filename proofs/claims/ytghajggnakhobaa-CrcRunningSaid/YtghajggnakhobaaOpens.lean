-- Written by a program of this session (wip/tools/hprint.py, over the kit's printer), not by hand. Lean checks it.
import Derived.Test.YtghajggnakhobaaOpen
import Derived.Test.YtghajggnakhobaaP0
import Derived.Test.YtghajggnakhobaaProg
namespace Go.Proofs.Ytghajggnakhobaa.P
open Go.RowKit Go.Proofs.YtghajggnakhobaaW.PrintWords Go.Proofs.Ytghajggnakhobaa.OpenWords
set_option linter.unusedVariables false
def ok52 (x : S52) : Prop := ((Lit.int .i64 x.f0).wf = true) ∧ ((Lit.int .i64 x.f1).wf = true) ∧ x.f2.length ≤ maxLen ∧ x.f2.length * 1 ≤ 140737488351232 ∧ ∀ y ∈ x.f2, (Lit.int .u8 y).wf = true
def bk52 (x : S52) : Nat := (1 + (1 + ((x.f2.map fun x => 1).sum + 1))) + 1
instance : Inhabited S52 := ⟨z52⟩
theorem opens52 : Opens Try.prog 52 k52 ok52 bk52 :=
  opens_struct (fun x : S52 => (x.f0, x.f1, x.f2)) (fun a => ⟨a.1, a.2.1, a.2.2⟩) (fun _ => rfl) Try.underlying52 (by kernel_rfl) (opensF_cons (opens_int Try.underlying3 (by kernel_rfl)) rfl (opensF_cons (opens_int Try.underlying3 (by kernel_rfl)) rfl (opensF_one (opens_slice 1 Try.underlying25 (by kernel_rfl) (by kernel_rfl) (opens_int Try.underlying5 (by kernel_rfl))))))
end Go.Proofs.Ytghajggnakhobaa.P
