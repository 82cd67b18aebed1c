/-
  No cell of these rows narrows 'for every input' (looked for: loops, veiled, ifaces, maps, wideKeys, modest, calm, conditions, laid).
  DERIVED. THE GIVEN ROWS OF THIS SEAT. 7 by the template 'for every input the law returns true; each argument reads behind the call as it read before'; 0 by the template 'total and deterministic' (their statements: YtbcggfjfgoabpaaTotals.lean).
  GIVEN WITH THE SEED: the statements are not yours to turn. If you find one false, say at which input.
  Laid BY PROGRAM, IN A SANDBOX (cutbox-rows.mjs): the forced cells as the released guide's own fill.sh prints them over the translation 0c75037c10428ef1… (all of the seat's roots in one cut). By AI agents, Wed Nov 11 2026. No macro, syntax, notation, axiom, sorry.
-/
import Derived.Test.YtbcggfjfgoabpaaChecked
import GoSem.Claim
import GoSem.ClaimJoined
import GoSem.ClaimMapViews
import Derived.JoinedTies
import Derived.KernelRfl
namespace Go.Proofs.Ytbcggfjfgoabpaa
/- THE CELL 'sum', in the pinned program and in every row, IS THE sha256 OF THE DUMP (.gsa) THAT YtbcggfjfgoabpaaProg.lean LOADS. Nothing in Lean hashes anything: it is a label: what it is worth is what the hold of that sum in a sandbox is worth. -/
noncomputable def Try.pinned : Pinned := { name := "ytbcggfjfgoabpaa", sum := "0c75037c10428ef154716b132e064e7e1309a7d190b433271d1ba0e9ee67fb74", checked := Try.checked }
namespace Rows
def none {H : Type} : Left H := { results := [], args := [] }

/-- 'winnowlaw13.LinesAll': WHATEVER THE INPUT: true; the input reads as it did. -/
def linesAllSpec : ChangeSpec := { name := "linesAll", fn := fun _ => fun
  | [d1, d2] => { results := [.lit (.bool true)], args := [d1, d2] }
  | _ => none }
def linesAllRow : OpenClaim := { program := "ytbcggfjfgoabpaa", sum := "0c75037c10428ef154716b132e064e7e1309a7d190b433271d1ba0e9ee67fb74", func := "winnow/winnowlaw13.LinesAll", spec := "linesAll", unfollowed := true, recurses := true, apart := false }
def LinesAllSaid : Prop := linesAllRow.holds Try.pinned (OpenSpec.ofChange linesAllSpec)

/-- ITS FALSE NEIGHBOUR: 'it returns false'. Refute it at one input. -/
def linesAllWrong : ChangeSpec := { name := "linesAll", fn := fun _ => fun
  | [d1, d2] => { results := [.lit (.bool false)], args := [d1, d2] }
  | _ => none }
def LinesAllWrongFalsely : Prop := linesAllRow.holds Try.pinned (OpenSpec.ofChange linesAllWrong)

/-- 'winnowlaw13.LinesOf': WHATEVER THE INPUT: true; the input reads as it did. -/
def linesOfSpec : ChangeSpec := { name := "linesOf", fn := fun _ => fun
  | [d1, d2] => { results := [.lit (.bool true)], args := [d1, d2] }
  | _ => none }
def linesOfRow : OpenClaim := { program := "ytbcggfjfgoabpaa", sum := "0c75037c10428ef154716b132e064e7e1309a7d190b433271d1ba0e9ee67fb74", func := "winnow/winnowlaw13.LinesOf", spec := "linesOf", unfollowed := true, recurses := true, apart := false }
def LinesOfSaid : Prop := linesOfRow.holds Try.pinned (OpenSpec.ofChange linesOfSpec)

/-- ITS FALSE NEIGHBOUR: 'it returns false'. Refute it at one input. -/
def linesOfWrong : ChangeSpec := { name := "linesOf", fn := fun _ => fun
  | [d1, d2] => { results := [.lit (.bool false)], args := [d1, d2] }
  | _ => none }
def LinesOfWrongFalsely : Prop := linesOfRow.holds Try.pinned (OpenSpec.ofChange linesOfWrong)

/-- 'winnowlaw13.LinesCuts': WHATEVER THE INPUT: true; the input reads as it did. -/
def linesCutsSpec : ChangeSpec := { name := "linesCuts", fn := fun _ => fun
  | [d1, d2] => { results := [.lit (.bool true)], args := [d1, d2] }
  | _ => none }
def linesCutsRow : OpenClaim := { program := "ytbcggfjfgoabpaa", sum := "0c75037c10428ef154716b132e064e7e1309a7d190b433271d1ba0e9ee67fb74", func := "winnow/winnowlaw13.LinesCuts", spec := "linesCuts", recurses := true, apart := false }
def LinesCutsSaid : Prop := linesCutsRow.holds Try.pinned (OpenSpec.ofChange linesCutsSpec)

/-- ITS FALSE NEIGHBOUR: 'it returns false'. Refute it at one input. -/
def linesCutsWrong : ChangeSpec := { name := "linesCuts", fn := fun _ => fun
  | [d1, d2] => { results := [.lit (.bool false)], args := [d1, d2] }
  | _ => none }
def LinesCutsWrongFalsely : Prop := linesCutsRow.holds Try.pinned (OpenSpec.ofChange linesCutsWrong)

/-- 'winnowlaw13.LinesSplits': WHATEVER THE INPUT: true; the input reads as it did. -/
def linesSplitsSpec : ChangeSpec := { name := "linesSplits", fn := fun _ => fun
  | [d1, d2] => { results := [.lit (.bool true)], args := [d1, d2] }
  | _ => none }
def linesSplitsRow : OpenClaim := { program := "ytbcggfjfgoabpaa", sum := "0c75037c10428ef154716b132e064e7e1309a7d190b433271d1ba0e9ee67fb74", func := "winnow/winnowlaw13.LinesSplits", spec := "linesSplits", unfollowed := true, recurses := true, apart := false }
def LinesSplitsSaid : Prop := linesSplitsRow.holds Try.pinned (OpenSpec.ofChange linesSplitsSpec)

/-- ITS FALSE NEIGHBOUR: 'it returns false'. Refute it at one input. -/
def linesSplitsWrong : ChangeSpec := { name := "linesSplits", fn := fun _ => fun
  | [d1, d2] => { results := [.lit (.bool false)], args := [d1, d2] }
  | _ => none }
def LinesSplitsWrongFalsely : Prop := linesSplitsRow.holds Try.pinned (OpenSpec.ofChange linesSplitsWrong)

/-- 'winnowlaw13.LinesBack': WHATEVER THE INPUT: true; the input reads as it did. -/
def linesBackSpec : ChangeSpec := { name := "linesBack", fn := fun _ => fun
  | [d] => { results := [.lit (.bool true)], args := [d] }
  | _ => none }
def linesBackRow : OpenClaim := { program := "ytbcggfjfgoabpaa", sum := "0c75037c10428ef154716b132e064e7e1309a7d190b433271d1ba0e9ee67fb74", func := "winnow/winnowlaw13.LinesBack", spec := "linesBack", unfollowed := true, recurses := true, apart := false }
def LinesBackSaid : Prop := linesBackRow.holds Try.pinned (OpenSpec.ofChange linesBackSpec)

/-- ITS FALSE NEIGHBOUR: 'it returns false'. Refute it at one input. -/
def linesBackWrong : ChangeSpec := { name := "linesBack", fn := fun _ => fun
  | [d] => { results := [.lit (.bool false)], args := [d] }
  | _ => none }
def LinesBackWrongFalsely : Prop := linesBackRow.holds Try.pinned (OpenSpec.ofChange linesBackWrong)

/-- 'winnowlaw13.LinesTouch': WHATEVER THE INPUT: true; the input reads as it did. -/
def linesTouchSpec : ChangeSpec := { name := "linesTouch", fn := fun _ => fun
  | [d1, d2, d3, d4] => { results := [.lit (.bool true)], args := [d1, d2, d3, d4] }
  | _ => none }
def linesTouchRow : OpenClaim := { program := "ytbcggfjfgoabpaa", sum := "0c75037c10428ef154716b132e064e7e1309a7d190b433271d1ba0e9ee67fb74", func := "winnow/winnowlaw13.LinesTouch", spec := "linesTouch", unfollowed := true, recurses := true, apart := false }
def LinesTouchSaid : Prop := linesTouchRow.holds Try.pinned (OpenSpec.ofChange linesTouchSpec)

/-- ITS FALSE NEIGHBOUR: 'it returns false'. Refute it at one input. -/
def linesTouchWrong : ChangeSpec := { name := "linesTouch", fn := fun _ => fun
  | [d1, d2, d3, d4] => { results := [.lit (.bool false)], args := [d1, d2, d3, d4] }
  | _ => none }
def LinesTouchWrongFalsely : Prop := linesTouchRow.holds Try.pinned (OpenSpec.ofChange linesTouchWrong)

/-- 'winnowlaw13.LinesOnce': WHATEVER THE INPUT: true; the input reads as it did. -/
def linesOnceSpec : ChangeSpec := { name := "linesOnce", fn := fun _ => fun
  | [d1, d2] => { results := [.lit (.bool true)], args := [d1, d2] }
  | _ => none }
def linesOnceRow : OpenClaim := { program := "ytbcggfjfgoabpaa", sum := "0c75037c10428ef154716b132e064e7e1309a7d190b433271d1ba0e9ee67fb74", func := "winnow/winnowlaw13.LinesOnce", spec := "linesOnce", unfollowed := true, recurses := true, apart := false }
def LinesOnceSaid : Prop := linesOnceRow.holds Try.pinned (OpenSpec.ofChange linesOnceSpec)

/-- ITS FALSE NEIGHBOUR: 'it returns false'. Refute it at one input. -/
def linesOnceWrong : ChangeSpec := { name := "linesOnce", fn := fun _ => fun
  | [d1, d2] => { results := [.lit (.bool false)], args := [d1, d2] }
  | _ => none }
def LinesOnceWrongFalsely : Prop := linesOnceRow.holds Try.pinned (OpenSpec.ofChange linesOnceWrong)

/- THE SECOND FORM. 'bulk': how many values and letters a reading holds, each counted each time it is reached (what is shared counts as often as it is met; a slice's spare places count too). A statement '..UptoSaid' is the law's where the arguments, and the package variables that the reading takes, are together of bulk at most 1048576: NARROWER than '..Said'. Prove '..Said' where nothing that the law and all that it calls make is longer than what came in: it says more and counts as full. Else prove '..UptoSaid'. A law counts once. -/
mutual
def uptoBulk {H : Type} : DataW H → Nat
  | .lit (.string bytes) => bytes.length + 1
  | .lit _ => 1
  | .nil => 1
  | .ptr d => uptoBulk d + 1
  | .slice elems spare => uptoBulkAll elems + uptoBulkAll spare + 1
  | .agg parts => uptoBulkAll parts + 1
  | .iface _ d => uptoBulk d + 1
  | .map entries => uptoBulkEntries entries + 1
  | .held _ => 1
def uptoBulkAll {H : Type} : List (DataW H) → Nat
  | [] => 0
  | d :: r => uptoBulk d + uptoBulkAll r
def uptoBulkEntries {H : Type} : List (Lit × DataW H) → Nat
  | [] => 0
  | x :: r => uptoBulkEntry x + uptoBulkEntries r
def uptoBulkEntry {H : Type} : Lit × DataW H → Nat
  | (.string bytes, d) => bytes.length + uptoBulk d + 1
  | (_, d) => uptoBulk d + 1
 end
def uptoSmall : (H : Type) → List (DataW H) → Bool := fun _ ds => decide (uptoBulkAll ds ≤ 1048576)
def OpenSpec.upto (s : _root_.Go.ChangeSpec) : _root_.Go.OpenSpec := { _root_.Go.OpenSpec.ofChange s with cond := some uptoSmall }

/-- 'winnowlaw13.LinesAll', WHERE WHAT IT READS IS OF BULK AT MOST 1048576: true; the input reads as it did. -/
def linesAllUptoRow : OpenClaim := { program := "ytbcggfjfgoabpaa", sum := "0c75037c10428ef154716b132e064e7e1309a7d190b433271d1ba0e9ee67fb74", func := "winnow/winnowlaw13.LinesAll", spec := "linesAll", unfollowed := true, recurses := true, apart := false, narrowed := true }
def LinesAllUptoSaid : Prop := linesAllUptoRow.holds Try.pinned (OpenSpec.upto linesAllSpec)

/-- 'winnowlaw13.LinesOf', WHERE WHAT IT READS IS OF BULK AT MOST 1048576: true; the input reads as it did. -/
def linesOfUptoRow : OpenClaim := { program := "ytbcggfjfgoabpaa", sum := "0c75037c10428ef154716b132e064e7e1309a7d190b433271d1ba0e9ee67fb74", func := "winnow/winnowlaw13.LinesOf", spec := "linesOf", unfollowed := true, recurses := true, apart := false, narrowed := true }
def LinesOfUptoSaid : Prop := linesOfUptoRow.holds Try.pinned (OpenSpec.upto linesOfSpec)

/-- 'winnowlaw13.LinesCuts', WHERE WHAT IT READS IS OF BULK AT MOST 1048576: true; the input reads as it did. -/
def linesCutsUptoRow : OpenClaim := { program := "ytbcggfjfgoabpaa", sum := "0c75037c10428ef154716b132e064e7e1309a7d190b433271d1ba0e9ee67fb74", func := "winnow/winnowlaw13.LinesCuts", spec := "linesCuts", recurses := true, apart := false, narrowed := true }
def LinesCutsUptoSaid : Prop := linesCutsUptoRow.holds Try.pinned (OpenSpec.upto linesCutsSpec)

/-- 'winnowlaw13.LinesSplits', WHERE WHAT IT READS IS OF BULK AT MOST 1048576: true; the input reads as it did. -/
def linesSplitsUptoRow : OpenClaim := { program := "ytbcggfjfgoabpaa", sum := "0c75037c10428ef154716b132e064e7e1309a7d190b433271d1ba0e9ee67fb74", func := "winnow/winnowlaw13.LinesSplits", spec := "linesSplits", unfollowed := true, recurses := true, apart := false, narrowed := true }
def LinesSplitsUptoSaid : Prop := linesSplitsUptoRow.holds Try.pinned (OpenSpec.upto linesSplitsSpec)

/-- 'winnowlaw13.LinesBack', WHERE WHAT IT READS IS OF BULK AT MOST 1048576: true; the input reads as it did. -/
def linesBackUptoRow : OpenClaim := { program := "ytbcggfjfgoabpaa", sum := "0c75037c10428ef154716b132e064e7e1309a7d190b433271d1ba0e9ee67fb74", func := "winnow/winnowlaw13.LinesBack", spec := "linesBack", unfollowed := true, recurses := true, apart := false, narrowed := true }
def LinesBackUptoSaid : Prop := linesBackUptoRow.holds Try.pinned (OpenSpec.upto linesBackSpec)

/-- 'winnowlaw13.LinesTouch', WHERE WHAT IT READS IS OF BULK AT MOST 1048576: true; the input reads as it did. -/
def linesTouchUptoRow : OpenClaim := { program := "ytbcggfjfgoabpaa", sum := "0c75037c10428ef154716b132e064e7e1309a7d190b433271d1ba0e9ee67fb74", func := "winnow/winnowlaw13.LinesTouch", spec := "linesTouch", unfollowed := true, recurses := true, apart := false, narrowed := true }
def LinesTouchUptoSaid : Prop := linesTouchUptoRow.holds Try.pinned (OpenSpec.upto linesTouchSpec)

/-- 'winnowlaw13.LinesOnce', WHERE WHAT IT READS IS OF BULK AT MOST 1048576: true; the input reads as it did. -/
def linesOnceUptoRow : OpenClaim := { program := "ytbcggfjfgoabpaa", sum := "0c75037c10428ef154716b132e064e7e1309a7d190b433271d1ba0e9ee67fb74", func := "winnow/winnowlaw13.LinesOnce", spec := "linesOnce", unfollowed := true, recurses := true, apart := false, narrowed := true }
def LinesOnceUptoSaid : Prop := linesOnceUptoRow.holds Try.pinned (OpenSpec.upto linesOnceSpec)

end Rows
end Go.Proofs.Ytbcggfjfgoabpaa
