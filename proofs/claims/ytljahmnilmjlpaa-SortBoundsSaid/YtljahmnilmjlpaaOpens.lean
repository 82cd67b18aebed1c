-- Written by a program of this session (wip/tools/hprint.py, over the kit's printer), not by hand. Lean checks it.
import Derived.Test.YtljahmnilmjlpaaOpen
import Derived.Test.YtljahmnilmjlpaaP0
import Derived.Test.YtljahmnilmjlpaaProg
namespace Go.Proofs.Ytljahmnilmjlpaa.P
open Go.RowKit Go.Proofs.YtljahmnilmjlpaaW.PrintWords Go.Proofs.Ytljahmnilmjlpaa.OpenWords
set_option linter.unusedVariables false
def ok23 (x : S23) : Prop := ((Lit.int .i64 x.f0).wf = true) ∧ (x.f1.size ≤ 140737488351232) ∧ x.f2.size ≤ 140737488351232
def bk23 (x : S23) : Nat := (1 + ((x.f1.size + 1) + (x.f2.size + 1))) + 1
instance : Inhabited S23 := ⟨z23⟩
theorem opens23 : Opens Try.prog 23 k23 ok23 bk23 :=
  opens_struct (fun x : S23 => (x.f0, x.f1, x.f2)) (fun a => ⟨a.1, a.2.1, a.2.2⟩) (fun _ => rfl) Try.underlying23 (by kernel_rfl) (opensF_cons (opens_int Try.underlying3 (by kernel_rfl)) rfl (opensF_cons (opens_string Try.underlying9 (by kernel_rfl)) rfl (opensF_one (opens_string Try.underlying9 (by kernel_rfl)))))
end Go.Proofs.Ytljahmnilmjlpaa.P
