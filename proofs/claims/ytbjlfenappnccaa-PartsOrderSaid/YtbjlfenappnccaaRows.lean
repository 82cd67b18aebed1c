/-
  No cell of these rows narrows 'for every input' (looked for: loops, veiled, ifaces, maps, wideKeys, modest, calm, conditions, laid).
  DERIVED. THE GIVEN ROWS OF THIS SEAT. 5 by the template 'for every input the law returns true; each argument reads behind the call as it read before'; 0 by the template 'total and deterministic' (their statements: YtbjlfenappnccaaTotals.lean).
  GIVEN WITH THE SEED: the statements are not yours to turn. If you find one false, say at which input.
  Laid BY PROGRAM, IN A SANDBOX (cutbox-rows.mjs): the forced cells as the released guide's own fill.sh prints them over the translation 955e2d523eefe9a0… (all of the seat's roots in one cut). By AI agents, Wed Nov 11 2026. No macro, syntax, notation, axiom, sorry.
-/
import Derived.Test.YtbjlfenappnccaaChecked
import GoSem.Claim
import GoSem.ClaimJoined
import GoSem.ClaimMapViews
import Derived.JoinedTies
import Derived.KernelRfl
namespace Go.Proofs.Ytbjlfenappnccaa
/- THE CELL 'sum', in the pinned program and in every row, IS THE sha256 OF THE DUMP (.gsa) THAT YtbjlfenappnccaaProg.lean LOADS. Nothing in Lean hashes anything: it is a label: what it is worth is what the hold of that sum in a sandbox is worth. -/
noncomputable def Try.pinned : Pinned := { name := "ytbjlfenappnccaa", sum := "955e2d523eefe9a0b99d15ff6d339cba1d364751e4106eda48e713dae5119e30", checked := Try.checked }
namespace Rows
def none {H : Type} : Left H := { results := [], args := [] }

/-- 'winnowlaw14.PartsHash': WHATEVER THE INPUT: true; the input reads as it did. -/
def partsHashSpec : ChangeSpec := { name := "partsHash", fn := fun _ => fun
  | [d1, d2] => { results := [.lit (.bool true)], args := [d1, d2] }
  | _ => none }
def partsHashRow : OpenClaim := { program := "ytbjlfenappnccaa", sum := "955e2d523eefe9a0b99d15ff6d339cba1d364751e4106eda48e713dae5119e30", func := "winnow/winnowlaw14.PartsHash", spec := "partsHash", apart := false }
def PartsHashSaid : Prop := partsHashRow.holds Try.pinned (OpenSpec.ofChange partsHashSpec)

/-- ITS FALSE NEIGHBOUR: 'it returns false'. Refute it at one input. -/
def partsHashWrong : ChangeSpec := { name := "partsHash", fn := fun _ => fun
  | [d1, d2] => { results := [.lit (.bool false)], args := [d1, d2] }
  | _ => none }
def PartsHashWrongFalsely : Prop := partsHashRow.holds Try.pinned (OpenSpec.ofChange partsHashWrong)

/-- 'winnowlaw14.PartsRange': WHATEVER THE INPUT: true; the input reads as it did. -/
def partsRangeSpec : ChangeSpec := { name := "partsRange", fn := fun _ => fun
  | [d1, d2, d3] => { results := [.lit (.bool true)], args := [d1, d2, d3] }
  | _ => none }
def partsRangeRow : OpenClaim := { program := "ytbjlfenappnccaa", sum := "955e2d523eefe9a0b99d15ff6d339cba1d364751e4106eda48e713dae5119e30", func := "winnow/winnowlaw14.PartsRange", spec := "partsRange", unfollowed := true, recurses := true, apart := false }
def PartsRangeSaid : Prop := partsRangeRow.holds Try.pinned (OpenSpec.ofChange partsRangeSpec)

/-- ITS FALSE NEIGHBOUR: 'it returns false'. Refute it at one input. -/
def partsRangeWrong : ChangeSpec := { name := "partsRange", fn := fun _ => fun
  | [d1, d2, d3] => { results := [.lit (.bool false)], args := [d1, d2, d3] }
  | _ => none }
def PartsRangeWrongFalsely : Prop := partsRangeRow.holds Try.pinned (OpenSpec.ofChange partsRangeWrong)

/-- 'winnowlaw14.PartsBounds': WHATEVER THE INPUT: true; the input reads as it did. -/
def partsBoundsSpec : ChangeSpec := { name := "partsBounds", fn := fun _ => fun
  | [d1, d2] => { results := [.lit (.bool true)], args := [d1, d2] }
  | _ => none }
def partsBoundsRow : OpenClaim := { program := "ytbjlfenappnccaa", sum := "955e2d523eefe9a0b99d15ff6d339cba1d364751e4106eda48e713dae5119e30", func := "winnow/winnowlaw14.PartsBounds", spec := "partsBounds", inPlace := ["internal/reflectlite.ValueOf", "internal/reflectlite.Swapper", "(internal/reflectlite.Value).Len"], unfollowed := true, recurses := true, apart := false }
def PartsBoundsSaid : Prop := partsBoundsRow.holds Try.pinned (OpenSpec.ofChange partsBoundsSpec)

/-- ITS FALSE NEIGHBOUR: 'it returns false'. Refute it at one input. -/
def partsBoundsWrong : ChangeSpec := { name := "partsBounds", fn := fun _ => fun
  | [d1, d2] => { results := [.lit (.bool false)], args := [d1, d2] }
  | _ => none }
def PartsBoundsWrongFalsely : Prop := partsBoundsRow.holds Try.pinned (OpenSpec.ofChange partsBoundsWrong)

/-- 'winnowlaw14.PartsEven': WHATEVER THE INPUT: true; the input reads as it did. -/
def partsEvenSpec : ChangeSpec := { name := "partsEven", fn := fun _ => fun
  | [d1, d2] => { results := [.lit (.bool true)], args := [d1, d2] }
  | _ => none }
def partsEvenRow : OpenClaim := { program := "ytbjlfenappnccaa", sum := "955e2d523eefe9a0b99d15ff6d339cba1d364751e4106eda48e713dae5119e30", func := "winnow/winnowlaw14.PartsEven", spec := "partsEven", inPlace := ["internal/reflectlite.ValueOf", "internal/reflectlite.Swapper", "(internal/reflectlite.Value).Len"], unfollowed := true, recurses := true, apart := false }
def PartsEvenSaid : Prop := partsEvenRow.holds Try.pinned (OpenSpec.ofChange partsEvenSpec)

/-- ITS FALSE NEIGHBOUR: 'it returns false'. Refute it at one input. -/
def partsEvenWrong : ChangeSpec := { name := "partsEven", fn := fun _ => fun
  | [d1, d2] => { results := [.lit (.bool false)], args := [d1, d2] }
  | _ => none }
def PartsEvenWrongFalsely : Prop := partsEvenRow.holds Try.pinned (OpenSpec.ofChange partsEvenWrong)

/-- 'winnowlaw14.PartsOrder': WHATEVER THE INPUT: true; the input reads as it did. -/
def partsOrderSpec : ChangeSpec := { name := "partsOrder", fn := fun _ => fun
  | [d1, d2, d3] => { results := [.lit (.bool true)], args := [d1, d2, d3] }
  | _ => none }
def partsOrderRow : OpenClaim := { program := "ytbjlfenappnccaa", sum := "955e2d523eefe9a0b99d15ff6d339cba1d364751e4106eda48e713dae5119e30", func := "winnow/winnowlaw14.PartsOrder", spec := "partsOrder", inPlace := ["internal/reflectlite.ValueOf", "internal/reflectlite.Swapper", "(internal/reflectlite.Value).Len"], unfollowed := true, recurses := true, apart := false }
def PartsOrderSaid : Prop := partsOrderRow.holds Try.pinned (OpenSpec.ofChange partsOrderSpec)

/-- ITS FALSE NEIGHBOUR: 'it returns false'. Refute it at one input. -/
def partsOrderWrong : ChangeSpec := { name := "partsOrder", fn := fun _ => fun
  | [d1, d2, d3] => { results := [.lit (.bool false)], args := [d1, d2, d3] }
  | _ => none }
def PartsOrderWrongFalsely : Prop := partsOrderRow.holds Try.pinned (OpenSpec.ofChange partsOrderWrong)

/- THE SECOND FORM. 'bulk': how many values and letters a reading holds, each counted each time it is reached (what is shared counts as often as it is met; a slice's spare places count too). A statement '..UptoSaid' is the law's where the arguments, and the package variables that the reading takes, are together of bulk at most 1048576: NARROWER than '..Said'. Prove '..Said' where nothing that the law and all that it calls make is longer than what came in: it says more and counts as full. Else prove '..UptoSaid'. A law counts once. -/
mutual
def uptoBulk {H : Type} : DataW H → Nat
  | .lit (.string bytes) => bytes.length + 1
  | .lit _ => 1
  | .nil => 1
  | .ptr d => uptoBulk d + 1
  | .slice elems spare => uptoBulkAll elems + uptoBulkAll spare + 1
  | .agg parts => uptoBulkAll parts + 1
  | .iface _ d => uptoBulk d + 1
  | .map entries => uptoBulkEntries entries + 1
  | .held _ => 1
def uptoBulkAll {H : Type} : List (DataW H) → Nat
  | [] => 0
  | d :: r => uptoBulk d + uptoBulkAll r
def uptoBulkEntries {H : Type} : List (Lit × DataW H) → Nat
  | [] => 0
  | x :: r => uptoBulkEntry x + uptoBulkEntries r
def uptoBulkEntry {H : Type} : Lit × DataW H → Nat
  | (.string bytes, d) => bytes.length + uptoBulk d + 1
  | (_, d) => uptoBulk d + 1
 end
def uptoSmall : (H : Type) → List (DataW H) → Bool := fun _ ds => decide (uptoBulkAll ds ≤ 1048576)
def OpenSpec.upto (s : _root_.Go.ChangeSpec) : _root_.Go.OpenSpec := { _root_.Go.OpenSpec.ofChange s with cond := some uptoSmall }

/-- 'winnowlaw14.PartsHash', WHERE WHAT IT READS IS OF BULK AT MOST 1048576: true; the input reads as it did. -/
def partsHashUptoRow : OpenClaim := { program := "ytbjlfenappnccaa", sum := "955e2d523eefe9a0b99d15ff6d339cba1d364751e4106eda48e713dae5119e30", func := "winnow/winnowlaw14.PartsHash", spec := "partsHash", apart := false, narrowed := true }
def PartsHashUptoSaid : Prop := partsHashUptoRow.holds Try.pinned (OpenSpec.upto partsHashSpec)

/-- 'winnowlaw14.PartsRange', WHERE WHAT IT READS IS OF BULK AT MOST 1048576: true; the input reads as it did. -/
def partsRangeUptoRow : OpenClaim := { program := "ytbjlfenappnccaa", sum := "955e2d523eefe9a0b99d15ff6d339cba1d364751e4106eda48e713dae5119e30", func := "winnow/winnowlaw14.PartsRange", spec := "partsRange", unfollowed := true, recurses := true, apart := false, narrowed := true }
def PartsRangeUptoSaid : Prop := partsRangeUptoRow.holds Try.pinned (OpenSpec.upto partsRangeSpec)

/-- 'winnowlaw14.PartsBounds', WHERE WHAT IT READS IS OF BULK AT MOST 1048576: true; the input reads as it did. -/
def partsBoundsUptoRow : OpenClaim := { program := "ytbjlfenappnccaa", sum := "955e2d523eefe9a0b99d15ff6d339cba1d364751e4106eda48e713dae5119e30", func := "winnow/winnowlaw14.PartsBounds", spec := "partsBounds", inPlace := ["internal/reflectlite.ValueOf", "internal/reflectlite.Swapper", "(internal/reflectlite.Value).Len"], unfollowed := true, recurses := true, apart := false, narrowed := true }
def PartsBoundsUptoSaid : Prop := partsBoundsUptoRow.holds Try.pinned (OpenSpec.upto partsBoundsSpec)

/-- 'winnowlaw14.PartsEven', WHERE WHAT IT READS IS OF BULK AT MOST 1048576: true; the input reads as it did. -/
def partsEvenUptoRow : OpenClaim := { program := "ytbjlfenappnccaa", sum := "955e2d523eefe9a0b99d15ff6d339cba1d364751e4106eda48e713dae5119e30", func := "winnow/winnowlaw14.PartsEven", spec := "partsEven", inPlace := ["internal/reflectlite.ValueOf", "internal/reflectlite.Swapper", "(internal/reflectlite.Value).Len"], unfollowed := true, recurses := true, apart := false, narrowed := true }
def PartsEvenUptoSaid : Prop := partsEvenUptoRow.holds Try.pinned (OpenSpec.upto partsEvenSpec)

/-- 'winnowlaw14.PartsOrder', WHERE WHAT IT READS IS OF BULK AT MOST 1048576: true; the input reads as it did. -/
def partsOrderUptoRow : OpenClaim := { program := "ytbjlfenappnccaa", sum := "955e2d523eefe9a0b99d15ff6d339cba1d364751e4106eda48e713dae5119e30", func := "winnow/winnowlaw14.PartsOrder", spec := "partsOrder", inPlace := ["internal/reflectlite.ValueOf", "internal/reflectlite.Swapper", "(internal/reflectlite.Value).Len"], unfollowed := true, recurses := true, apart := false, narrowed := true }
def PartsOrderUptoSaid : Prop := partsOrderUptoRow.holds Try.pinned (OpenSpec.upto partsOrderSpec)

end Rows
end Go.Proofs.Ytbjlfenappnccaa
