/-
  No cell of these rows narrows 'for every input' (looked for: loops, veiled, ifaces, maps, wideKeys, modest, calm, conditions, laid).
  DERIVED. THE GIVEN ROWS OF THIS SEAT. 5 by the template 'for every input the law returns true; each argument reads behind the call as it read before'; 0 by the template 'total and deterministic' (their statements: YtljahmnilmjlpaaTotals.lean).
  GIVEN WITH THE SEED: the statements are not yours to turn. If you find one false, say at which input.
  Laid BY PROGRAM, IN A SANDBOX (cutbox-rows.mjs): the forced cells as the released guide's own fill.sh prints them over the translation 59427decfc972da1… (all of the seat's roots in one cut). By AI agents, Wed Nov 11 2026. No macro, syntax, notation, axiom, sorry.
-/
import Derived.Test.YtljahmnilmjlpaaChecked
import GoSem.Claim
import GoSem.ClaimJoined
import GoSem.ClaimMapViews
import Derived.JoinedTies
import Derived.KernelRfl
namespace Go.Proofs.Ytljahmnilmjlpaa
/- THE CELL 'sum', in the pinned program and in every row, IS THE sha256 OF THE DUMP (.gsa) THAT YtljahmnilmjlpaaProg.lean LOADS. Nothing in Lean hashes anything: it is a label: what it is worth is what the hold of that sum in a sandbox is worth. -/
noncomputable def Try.pinned : Pinned := { name := "ytljahmnilmjlpaa", sum := "59427decfc972da17d62fd050858a10bc33af2deb59e05d28619859866351ac5", checked := Try.checked }
namespace Rows
def none {H : Type} : Left H := { results := [], args := [] }

/-- 'winnowlaw10.SortCompares': WHATEVER THE INPUT: true; the input reads as it did. -/
def sortComparesSpec : ChangeSpec := { name := "sortCompares", fn := fun _ => fun
  | [d1, d2] => { results := [.lit (.bool true)], args := [d1, d2] }
  | _ => none }
def sortComparesRow : OpenClaim := { program := "ytljahmnilmjlpaa", sum := "59427decfc972da17d62fd050858a10bc33af2deb59e05d28619859866351ac5", func := "winnow/winnowlaw10.SortCompares", spec := "sortCompares", apart := false }
def SortComparesSaid : Prop := sortComparesRow.holds Try.pinned (OpenSpec.ofChange sortComparesSpec)

/-- ITS FALSE NEIGHBOUR: 'it returns false'. Refute it at one input. -/
def sortComparesWrong : ChangeSpec := { name := "sortCompares", fn := fun _ => fun
  | [d1, d2] => { results := [.lit (.bool false)], args := [d1, d2] }
  | _ => none }
def SortComparesWrongFalsely : Prop := sortComparesRow.holds Try.pinned (OpenSpec.ofChange sortComparesWrong)

/-- 'winnowlaw10.SortSorts': WHATEVER THE INPUT: true; the input reads as it did. -/
def sortSortsSpec : ChangeSpec := { name := "sortSorts", fn := fun _ => fun
  | [d] => { results := [.lit (.bool true)], args := [d] }
  | _ => none }
def sortSortsRow : OpenClaim := { program := "ytljahmnilmjlpaa", sum := "59427decfc972da17d62fd050858a10bc33af2deb59e05d28619859866351ac5", func := "winnow/winnowlaw10.SortSorts", spec := "sortSorts", unfollowed := true, recurses := true, apart := false }
def SortSortsSaid : Prop := sortSortsRow.holds Try.pinned (OpenSpec.ofChange sortSortsSpec)

/-- ITS FALSE NEIGHBOUR: 'it returns false'. Refute it at one input. -/
def sortSortsWrong : ChangeSpec := { name := "sortSorts", fn := fun _ => fun
  | [d] => { results := [.lit (.bool false)], args := [d] }
  | _ => none }
def SortSortsWrongFalsely : Prop := sortSortsRow.holds Try.pinned (OpenSpec.ofChange sortSortsWrong)

/-- 'winnowlaw10.SortMerges': WHATEVER THE INPUT: true; the input reads as it did. -/
def sortMergesSpec : ChangeSpec := { name := "sortMerges", fn := fun _ => fun
  | [d1, d2] => { results := [.lit (.bool true)], args := [d1, d2] }
  | _ => none }
def sortMergesRow : OpenClaim := { program := "ytljahmnilmjlpaa", sum := "59427decfc972da17d62fd050858a10bc33af2deb59e05d28619859866351ac5", func := "winnow/winnowlaw10.SortMerges", spec := "sortMerges", unfollowed := true, recurses := true, apart := false }
def SortMergesSaid : Prop := sortMergesRow.holds Try.pinned (OpenSpec.ofChange sortMergesSpec)

/-- ITS FALSE NEIGHBOUR: 'it returns false'. Refute it at one input. -/
def sortMergesWrong : ChangeSpec := { name := "sortMerges", fn := fun _ => fun
  | [d1, d2] => { results := [.lit (.bool false)], args := [d1, d2] }
  | _ => none }
def SortMergesWrongFalsely : Prop := sortMergesRow.holds Try.pinned (OpenSpec.ofChange sortMergesWrong)

/-- 'winnowlaw10.SortBuffers': WHATEVER THE INPUT: true; the input reads as it did. -/
def sortBuffersSpec : ChangeSpec := { name := "sortBuffers", fn := fun _ => fun
  | [d1, d2] => { results := [.lit (.bool true)], args := [d1, d2] }
  | _ => none }
def sortBuffersRow : OpenClaim := { program := "ytljahmnilmjlpaa", sum := "59427decfc972da17d62fd050858a10bc33af2deb59e05d28619859866351ac5", func := "winnow/winnowlaw10.SortBuffers", spec := "sortBuffers", unfollowed := true, recurses := true, apart := false }
def SortBuffersSaid : Prop := sortBuffersRow.holds Try.pinned (OpenSpec.ofChange sortBuffersSpec)

/-- ITS FALSE NEIGHBOUR: 'it returns false'. Refute it at one input. -/
def sortBuffersWrong : ChangeSpec := { name := "sortBuffers", fn := fun _ => fun
  | [d1, d2] => { results := [.lit (.bool false)], args := [d1, d2] }
  | _ => none }
def SortBuffersWrongFalsely : Prop := sortBuffersRow.holds Try.pinned (OpenSpec.ofChange sortBuffersWrong)

/-- 'winnowlaw10.SortBounds': WHATEVER THE INPUT: true; the input reads as it did. -/
def sortBoundsSpec : ChangeSpec := { name := "sortBounds", fn := fun _ => fun
  | [d1, d2] => { results := [.lit (.bool true)], args := [d1, d2] }
  | _ => none }
def sortBoundsRow : OpenClaim := { program := "ytljahmnilmjlpaa", sum := "59427decfc972da17d62fd050858a10bc33af2deb59e05d28619859866351ac5", func := "winnow/winnowlaw10.SortBounds", spec := "sortBounds", unfollowed := true, recurses := true, apart := false }
def SortBoundsSaid : Prop := sortBoundsRow.holds Try.pinned (OpenSpec.ofChange sortBoundsSpec)

/-- ITS FALSE NEIGHBOUR: 'it returns false'. Refute it at one input. -/
def sortBoundsWrong : ChangeSpec := { name := "sortBounds", fn := fun _ => fun
  | [d1, d2] => { results := [.lit (.bool false)], args := [d1, d2] }
  | _ => none }
def SortBoundsWrongFalsely : Prop := sortBoundsRow.holds Try.pinned (OpenSpec.ofChange sortBoundsWrong)

/- THE SECOND FORM. 'bulk': how many values and letters a reading holds, each counted each time it is reached (what is shared counts as often as it is met; a slice's spare places count too). A statement '..UptoSaid' is the law's where the arguments, and the package variables that the reading takes, are together of bulk at most 1048576: NARROWER than '..Said'. Prove '..Said' where nothing that the law and all that it calls make is longer than what came in: it says more and counts as full. Else prove '..UptoSaid'. A law counts once. -/
mutual
def uptoBulk {H : Type} : DataW H → Nat
  | .lit (.string bytes) => bytes.length + 1
  | .lit _ => 1
  | .nil => 1
  | .ptr d => uptoBulk d + 1
  | .slice elems spare => uptoBulkAll elems + uptoBulkAll spare + 1
  | .agg parts => uptoBulkAll parts + 1
  | .iface _ d => uptoBulk d + 1
  | .map entries => uptoBulkEntries entries + 1
  | .held _ => 1
def uptoBulkAll {H : Type} : List (DataW H) → Nat
  | [] => 0
  | d :: r => uptoBulk d + uptoBulkAll r
def uptoBulkEntries {H : Type} : List (Lit × DataW H) → Nat
  | [] => 0
  | x :: r => uptoBulkEntry x + uptoBulkEntries r
def uptoBulkEntry {H : Type} : Lit × DataW H → Nat
  | (.string bytes, d) => bytes.length + uptoBulk d + 1
  | (_, d) => uptoBulk d + 1
 end
def uptoSmall : (H : Type) → List (DataW H) → Bool := fun _ ds => decide (uptoBulkAll ds ≤ 1048576)
def OpenSpec.upto (s : _root_.Go.ChangeSpec) : _root_.Go.OpenSpec := { _root_.Go.OpenSpec.ofChange s with cond := some uptoSmall }

/-- 'winnowlaw10.SortCompares', WHERE WHAT IT READS IS OF BULK AT MOST 1048576: true; the input reads as it did. -/
def sortComparesUptoRow : OpenClaim := { program := "ytljahmnilmjlpaa", sum := "59427decfc972da17d62fd050858a10bc33af2deb59e05d28619859866351ac5", func := "winnow/winnowlaw10.SortCompares", spec := "sortCompares", apart := false, narrowed := true }
def SortComparesUptoSaid : Prop := sortComparesUptoRow.holds Try.pinned (OpenSpec.upto sortComparesSpec)

/-- 'winnowlaw10.SortSorts', WHERE WHAT IT READS IS OF BULK AT MOST 1048576: true; the input reads as it did. -/
def sortSortsUptoRow : OpenClaim := { program := "ytljahmnilmjlpaa", sum := "59427decfc972da17d62fd050858a10bc33af2deb59e05d28619859866351ac5", func := "winnow/winnowlaw10.SortSorts", spec := "sortSorts", unfollowed := true, recurses := true, apart := false, narrowed := true }
def SortSortsUptoSaid : Prop := sortSortsUptoRow.holds Try.pinned (OpenSpec.upto sortSortsSpec)

/-- 'winnowlaw10.SortMerges', WHERE WHAT IT READS IS OF BULK AT MOST 1048576: true; the input reads as it did. -/
def sortMergesUptoRow : OpenClaim := { program := "ytljahmnilmjlpaa", sum := "59427decfc972da17d62fd050858a10bc33af2deb59e05d28619859866351ac5", func := "winnow/winnowlaw10.SortMerges", spec := "sortMerges", unfollowed := true, recurses := true, apart := false, narrowed := true }
def SortMergesUptoSaid : Prop := sortMergesUptoRow.holds Try.pinned (OpenSpec.upto sortMergesSpec)

/-- 'winnowlaw10.SortBuffers', WHERE WHAT IT READS IS OF BULK AT MOST 1048576: true; the input reads as it did. -/
def sortBuffersUptoRow : OpenClaim := { program := "ytljahmnilmjlpaa", sum := "59427decfc972da17d62fd050858a10bc33af2deb59e05d28619859866351ac5", func := "winnow/winnowlaw10.SortBuffers", spec := "sortBuffers", unfollowed := true, recurses := true, apart := false, narrowed := true }
def SortBuffersUptoSaid : Prop := sortBuffersUptoRow.holds Try.pinned (OpenSpec.upto sortBuffersSpec)

/-- 'winnowlaw10.SortBounds', WHERE WHAT IT READS IS OF BULK AT MOST 1048576: true; the input reads as it did. -/
def sortBoundsUptoRow : OpenClaim := { program := "ytljahmnilmjlpaa", sum := "59427decfc972da17d62fd050858a10bc33af2deb59e05d28619859866351ac5", func := "winnow/winnowlaw10.SortBounds", spec := "sortBounds", unfollowed := true, recurses := true, apart := false, narrowed := true }
def SortBoundsUptoSaid : Prop := sortBoundsUptoRow.holds Try.pinned (OpenSpec.upto sortBoundsSpec)

end Rows
end Go.Proofs.Ytljahmnilmjlpaa
