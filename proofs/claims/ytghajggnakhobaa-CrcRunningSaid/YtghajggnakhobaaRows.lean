/-
  No cell of these rows narrows 'for every input' (looked for: loops, veiled, ifaces, maps, wideKeys, modest, calm, conditions, laid).
  DERIVED. THE GIVEN ROWS OF THIS SEAT. 10 by the template 'for every input the law returns true; each argument reads behind the call as it read before'; 0 by the template 'total and deterministic' (their statements: YtghajggnakhobaaTotals.lean).
  GIVEN WITH THE SEED: the statements are not yours to turn. If you find one false, say at which input.
  Laid BY PROGRAM, IN A SANDBOX (cutbox-rows.mjs): the forced cells as the released guide's own fill.sh prints them over the translation d627403c8e3f89cc… (all of the seat's roots in one cut). By AI agents, Wed Nov 11 2026. No macro, syntax, notation, axiom, sorry.
-/
import Derived.Test.YtghajggnakhobaaChecked
import GoSem.Claim
import GoSem.ClaimJoined
import GoSem.ClaimMapViews
import Derived.JoinedTies
import Derived.KernelRfl
namespace Go.Proofs.Ytghajggnakhobaa
/- THE CELL 'sum', in the pinned program and in every row, IS THE sha256 OF THE DUMP (.gsa) THAT YtghajggnakhobaaProg.lean LOADS. Nothing in Lean hashes anything: it is a label: what it is worth is what the hold of that sum in a sandbox is worth. -/
noncomputable def Try.pinned : Pinned := { name := "ytghajggnakhobaa", sum := "d627403c8e3f89ccab9fff644b7c241f342ac4b8fbc9e153fe84293ef89e0e70", checked := Try.checked }
namespace Rows
def none {H : Type} : Left H := { results := [], args := [] }

/-- 'winnowlaw1.CrcJoins': WHATEVER THE INPUT: true; the input reads as it did. -/
def crcJoinsSpec : ChangeSpec := { name := "crcJoins", fn := fun _ => fun
  | [d1, d2, d3] => { results := [.lit (.bool true)], args := [d1, d2, d3] }
  | _ => none }
def crcJoinsRow : OpenClaim := { program := "ytghajggnakhobaa", sum := "d627403c8e3f89ccab9fff644b7c241f342ac4b8fbc9e153fe84293ef89e0e70", func := "winnow/winnowlaw1.CrcJoins", spec := "crcJoins", apart := false }
def CrcJoinsSaid : Prop := crcJoinsRow.holds Try.pinned (OpenSpec.ofChange crcJoinsSpec)

/-- ITS FALSE NEIGHBOUR: 'it returns false'. Refute it at one input. -/
def crcJoinsWrong : ChangeSpec := { name := "crcJoins", fn := fun _ => fun
  | [d1, d2, d3] => { results := [.lit (.bool false)], args := [d1, d2, d3] }
  | _ => none }
def CrcJoinsWrongFalsely : Prop := crcJoinsRow.holds Try.pinned (OpenSpec.ofChange crcJoinsWrong)

/-- 'winnowlaw1.CrcSums': WHATEVER THE INPUT: true; the input reads as it did. -/
def crcSumsSpec : ChangeSpec := { name := "crcSums", fn := fun _ => fun
  | [d1, d2] => { results := [.lit (.bool true)], args := [d1, d2] }
  | _ => none }
def crcSumsRow : OpenClaim := { program := "ytghajggnakhobaa", sum := "d627403c8e3f89ccab9fff644b7c241f342ac4b8fbc9e153fe84293ef89e0e70", func := "winnow/winnowlaw1.CrcSums", spec := "crcSums", apart := false }
def CrcSumsSaid : Prop := crcSumsRow.holds Try.pinned (OpenSpec.ofChange crcSumsSpec)

/-- ITS FALSE NEIGHBOUR: 'it returns false'. Refute it at one input. -/
def crcSumsWrong : ChangeSpec := { name := "crcSums", fn := fun _ => fun
  | [d1, d2] => { results := [.lit (.bool false)], args := [d1, d2] }
  | _ => none }
def CrcSumsWrongFalsely : Prop := crcSumsRow.holds Try.pinned (OpenSpec.ofChange crcSumsWrong)

/-- 'winnowlaw1.CrcTiles': WHATEVER THE INPUT: true; the input reads as it did. -/
def crcTilesSpec : ChangeSpec := { name := "crcTiles", fn := fun _ => fun
  | [d] => { results := [.lit (.bool true)], args := [d] }
  | _ => none }
def crcTilesRow : OpenClaim := { program := "ytghajggnakhobaa", sum := "d627403c8e3f89ccab9fff644b7c241f342ac4b8fbc9e153fe84293ef89e0e70", func := "winnow/winnowlaw1.CrcTiles", spec := "crcTiles", apart := false }
def CrcTilesSaid : Prop := crcTilesRow.holds Try.pinned (OpenSpec.ofChange crcTilesSpec)

/-- ITS FALSE NEIGHBOUR: 'it returns false'. Refute it at one input. -/
def crcTilesWrong : ChangeSpec := { name := "crcTiles", fn := fun _ => fun
  | [d] => { results := [.lit (.bool false)], args := [d] }
  | _ => none }
def CrcTilesWrongFalsely : Prop := crcTilesRow.holds Try.pinned (OpenSpec.ofChange crcTilesWrong)

/-- 'winnowlaw1.CrcRound': WHATEVER THE INPUT: true; the input reads as it did. -/
def crcRoundSpec : ChangeSpec := { name := "crcRound", fn := fun _ => fun
  | [d1, d2] => { results := [.lit (.bool true)], args := [d1, d2] }
  | _ => none }
def crcRoundRow : OpenClaim := { program := "ytghajggnakhobaa", sum := "d627403c8e3f89ccab9fff644b7c241f342ac4b8fbc9e153fe84293ef89e0e70", func := "winnow/winnowlaw1.CrcRound", spec := "crcRound", apart := false }
def CrcRoundSaid : Prop := crcRoundRow.holds Try.pinned (OpenSpec.ofChange crcRoundSpec)

/-- ITS FALSE NEIGHBOUR: 'it returns false'. Refute it at one input. -/
def crcRoundWrong : ChangeSpec := { name := "crcRound", fn := fun _ => fun
  | [d1, d2] => { results := [.lit (.bool false)], args := [d1, d2] }
  | _ => none }
def CrcRoundWrongFalsely : Prop := crcRoundRow.holds Try.pinned (OpenSpec.ofChange crcRoundWrong)

/-- 'winnowlaw1.CrcBurst': WHATEVER THE INPUT: true; the input reads as it did. -/
def crcBurstSpec : ChangeSpec := { name := "crcBurst", fn := fun _ => fun
  | [d1, d2, d3] => { results := [.lit (.bool true)], args := [d1, d2, d3] }
  | _ => none }
def crcBurstRow : OpenClaim := { program := "ytghajggnakhobaa", sum := "d627403c8e3f89ccab9fff644b7c241f342ac4b8fbc9e153fe84293ef89e0e70", func := "winnow/winnowlaw1.CrcBurst", spec := "crcBurst", apart := false }
def CrcBurstSaid : Prop := crcBurstRow.holds Try.pinned (OpenSpec.ofChange crcBurstSpec)

/-- ITS FALSE NEIGHBOUR: 'it returns false'. Refute it at one input. -/
def crcBurstWrong : ChangeSpec := { name := "crcBurst", fn := fun _ => fun
  | [d1, d2, d3] => { results := [.lit (.bool false)], args := [d1, d2, d3] }
  | _ => none }
def CrcBurstWrongFalsely : Prop := crcBurstRow.holds Try.pinned (OpenSpec.ofChange crcBurstWrong)

/-- 'winnowlaw1.CrcLinear': WHATEVER THE INPUT: true; the input reads as it did. -/
def crcLinearSpec : ChangeSpec := { name := "crcLinear", fn := fun _ => fun
  | [d1, d2, d3] => { results := [.lit (.bool true)], args := [d1, d2, d3] }
  | _ => none }
def crcLinearRow : OpenClaim := { program := "ytghajggnakhobaa", sum := "d627403c8e3f89ccab9fff644b7c241f342ac4b8fbc9e153fe84293ef89e0e70", func := "winnow/winnowlaw1.CrcLinear", spec := "crcLinear", apart := false }
def CrcLinearSaid : Prop := crcLinearRow.holds Try.pinned (OpenSpec.ofChange crcLinearSpec)

/-- ITS FALSE NEIGHBOUR: 'it returns false'. Refute it at one input. -/
def crcLinearWrong : ChangeSpec := { name := "crcLinear", fn := fun _ => fun
  | [d1, d2, d3] => { results := [.lit (.bool false)], args := [d1, d2, d3] }
  | _ => none }
def CrcLinearWrongFalsely : Prop := crcLinearRow.holds Try.pinned (OpenSpec.ofChange crcLinearWrong)

/-- 'winnowlaw1.CrcZeros': WHATEVER THE INPUT: true; the input reads as it did. -/
def crcZerosSpec : ChangeSpec := { name := "crcZeros", fn := fun _ => fun
  | [d] => { results := [.lit (.bool true)], args := [d] }
  | _ => none }
def crcZerosRow : OpenClaim := { program := "ytghajggnakhobaa", sum := "d627403c8e3f89ccab9fff644b7c241f342ac4b8fbc9e153fe84293ef89e0e70", func := "winnow/winnowlaw1.CrcZeros", spec := "crcZeros", apart := false }
def CrcZerosSaid : Prop := crcZerosRow.holds Try.pinned (OpenSpec.ofChange crcZerosSpec)

/-- ITS FALSE NEIGHBOUR: 'it returns false'. Refute it at one input. -/
def crcZerosWrong : ChangeSpec := { name := "crcZeros", fn := fun _ => fun
  | [d] => { results := [.lit (.bool false)], args := [d] }
  | _ => none }
def CrcZerosWrongFalsely : Prop := crcZerosRow.holds Try.pinned (OpenSpec.ofChange crcZerosWrong)

/-- 'winnowlaw1.CrcRunning': WHATEVER THE INPUT: true; the input reads as it did. -/
def crcRunningSpec : ChangeSpec := { name := "crcRunning", fn := fun _ => fun
  | [d] => { results := [.lit (.bool true)], args := [d] }
  | _ => none }
def crcRunningRow : OpenClaim := { program := "ytghajggnakhobaa", sum := "d627403c8e3f89ccab9fff644b7c241f342ac4b8fbc9e153fe84293ef89e0e70", func := "winnow/winnowlaw1.CrcRunning", spec := "crcRunning", apart := false }
def CrcRunningSaid : Prop := crcRunningRow.holds Try.pinned (OpenSpec.ofChange crcRunningSpec)

/-- ITS FALSE NEIGHBOUR: 'it returns false'. Refute it at one input. -/
def crcRunningWrong : ChangeSpec := { name := "crcRunning", fn := fun _ => fun
  | [d] => { results := [.lit (.bool false)], args := [d] }
  | _ => none }
def CrcRunningWrongFalsely : Prop := crcRunningRow.holds Try.pinned (OpenSpec.ofChange crcRunningWrong)

/-- 'winnowlaw1.CrcFar': WHATEVER THE INPUT: true; the input reads as it did. -/
def crcFarSpec : ChangeSpec := { name := "crcFar", fn := fun _ => fun
  | [d1, d2, d3, d4, d5] => { results := [.lit (.bool true)], args := [d1, d2, d3, d4, d5] }
  | _ => none }
def crcFarRow : OpenClaim := { program := "ytghajggnakhobaa", sum := "d627403c8e3f89ccab9fff644b7c241f342ac4b8fbc9e153fe84293ef89e0e70", func := "winnow/winnowlaw1.CrcFar", spec := "crcFar", apart := false }
def CrcFarSaid : Prop := crcFarRow.holds Try.pinned (OpenSpec.ofChange crcFarSpec)

/-- ITS FALSE NEIGHBOUR: 'it returns false'. Refute it at one input. -/
def crcFarWrong : ChangeSpec := { name := "crcFar", fn := fun _ => fun
  | [d1, d2, d3, d4, d5] => { results := [.lit (.bool false)], args := [d1, d2, d3, d4, d5] }
  | _ => none }
def CrcFarWrongFalsely : Prop := crcFarRow.holds Try.pinned (OpenSpec.ofChange crcFarWrong)

/-- 'winnowlaw1.CrcParts': WHATEVER THE INPUT: true; the input reads as it did. -/
def crcPartsSpec : ChangeSpec := { name := "crcParts", fn := fun _ => fun
  | [d1, d2, d3] => { results := [.lit (.bool true)], args := [d1, d2, d3] }
  | _ => none }
def crcPartsRow : OpenClaim := { program := "ytghajggnakhobaa", sum := "d627403c8e3f89ccab9fff644b7c241f342ac4b8fbc9e153fe84293ef89e0e70", func := "winnow/winnowlaw1.CrcParts", spec := "crcParts", apart := false }
def CrcPartsSaid : Prop := crcPartsRow.holds Try.pinned (OpenSpec.ofChange crcPartsSpec)

/-- ITS FALSE NEIGHBOUR: 'it returns false'. Refute it at one input. -/
def crcPartsWrong : ChangeSpec := { name := "crcParts", fn := fun _ => fun
  | [d1, d2, d3] => { results := [.lit (.bool false)], args := [d1, d2, d3] }
  | _ => none }
def CrcPartsWrongFalsely : Prop := crcPartsRow.holds Try.pinned (OpenSpec.ofChange crcPartsWrong)

/- THE SECOND FORM. 'bulk': how many values and letters a reading holds, each counted each time it is reached (what is shared counts as often as it is met; a slice's spare places count too). A statement '..UptoSaid' is the law's where the arguments, and the package variables that the reading takes, are together of bulk at most 1048576: NARROWER than '..Said'. Prove '..Said' where nothing that the law and all that it calls make is longer than what came in: it says more and counts as full. Else prove '..UptoSaid'. A law counts once. -/
mutual
def uptoBulk {H : Type} : DataW H → Nat
  | .lit (.string bytes) => bytes.length + 1
  | .lit _ => 1
  | .nil => 1
  | .ptr d => uptoBulk d + 1
  | .slice elems spare => uptoBulkAll elems + uptoBulkAll spare + 1
  | .agg parts => uptoBulkAll parts + 1
  | .iface _ d => uptoBulk d + 1
  | .map entries => uptoBulkEntries entries + 1
  | .held _ => 1
def uptoBulkAll {H : Type} : List (DataW H) → Nat
  | [] => 0
  | d :: r => uptoBulk d + uptoBulkAll r
def uptoBulkEntries {H : Type} : List (Lit × DataW H) → Nat
  | [] => 0
  | x :: r => uptoBulkEntry x + uptoBulkEntries r
def uptoBulkEntry {H : Type} : Lit × DataW H → Nat
  | (.string bytes, d) => bytes.length + uptoBulk d + 1
  | (_, d) => uptoBulk d + 1
 end
def uptoSmall : (H : Type) → List (DataW H) → Bool := fun _ ds => decide (uptoBulkAll ds ≤ 1048576)
def OpenSpec.upto (s : _root_.Go.ChangeSpec) : _root_.Go.OpenSpec := { _root_.Go.OpenSpec.ofChange s with cond := some uptoSmall }

/-- 'winnowlaw1.CrcJoins', WHERE WHAT IT READS IS OF BULK AT MOST 1048576: true; the input reads as it did. -/
def crcJoinsUptoRow : OpenClaim := { program := "ytghajggnakhobaa", sum := "d627403c8e3f89ccab9fff644b7c241f342ac4b8fbc9e153fe84293ef89e0e70", func := "winnow/winnowlaw1.CrcJoins", spec := "crcJoins", apart := false, narrowed := true }
def CrcJoinsUptoSaid : Prop := crcJoinsUptoRow.holds Try.pinned (OpenSpec.upto crcJoinsSpec)

/-- 'winnowlaw1.CrcSums', WHERE WHAT IT READS IS OF BULK AT MOST 1048576: true; the input reads as it did. -/
def crcSumsUptoRow : OpenClaim := { program := "ytghajggnakhobaa", sum := "d627403c8e3f89ccab9fff644b7c241f342ac4b8fbc9e153fe84293ef89e0e70", func := "winnow/winnowlaw1.CrcSums", spec := "crcSums", apart := false, narrowed := true }
def CrcSumsUptoSaid : Prop := crcSumsUptoRow.holds Try.pinned (OpenSpec.upto crcSumsSpec)

/-- 'winnowlaw1.CrcTiles', WHERE WHAT IT READS IS OF BULK AT MOST 1048576: true; the input reads as it did. -/
def crcTilesUptoRow : OpenClaim := { program := "ytghajggnakhobaa", sum := "d627403c8e3f89ccab9fff644b7c241f342ac4b8fbc9e153fe84293ef89e0e70", func := "winnow/winnowlaw1.CrcTiles", spec := "crcTiles", apart := false, narrowed := true }
def CrcTilesUptoSaid : Prop := crcTilesUptoRow.holds Try.pinned (OpenSpec.upto crcTilesSpec)

/-- 'winnowlaw1.CrcRound', WHERE WHAT IT READS IS OF BULK AT MOST 1048576: true; the input reads as it did. -/
def crcRoundUptoRow : OpenClaim := { program := "ytghajggnakhobaa", sum := "d627403c8e3f89ccab9fff644b7c241f342ac4b8fbc9e153fe84293ef89e0e70", func := "winnow/winnowlaw1.CrcRound", spec := "crcRound", apart := false, narrowed := true }
def CrcRoundUptoSaid : Prop := crcRoundUptoRow.holds Try.pinned (OpenSpec.upto crcRoundSpec)

/-- 'winnowlaw1.CrcBurst', WHERE WHAT IT READS IS OF BULK AT MOST 1048576: true; the input reads as it did. -/
def crcBurstUptoRow : OpenClaim := { program := "ytghajggnakhobaa", sum := "d627403c8e3f89ccab9fff644b7c241f342ac4b8fbc9e153fe84293ef89e0e70", func := "winnow/winnowlaw1.CrcBurst", spec := "crcBurst", apart := false, narrowed := true }
def CrcBurstUptoSaid : Prop := crcBurstUptoRow.holds Try.pinned (OpenSpec.upto crcBurstSpec)

/-- 'winnowlaw1.CrcLinear', WHERE WHAT IT READS IS OF BULK AT MOST 1048576: true; the input reads as it did. -/
def crcLinearUptoRow : OpenClaim := { program := "ytghajggnakhobaa", sum := "d627403c8e3f89ccab9fff644b7c241f342ac4b8fbc9e153fe84293ef89e0e70", func := "winnow/winnowlaw1.CrcLinear", spec := "crcLinear", apart := false, narrowed := true }
def CrcLinearUptoSaid : Prop := crcLinearUptoRow.holds Try.pinned (OpenSpec.upto crcLinearSpec)

/-- 'winnowlaw1.CrcZeros', WHERE WHAT IT READS IS OF BULK AT MOST 1048576: true; the input reads as it did. -/
def crcZerosUptoRow : OpenClaim := { program := "ytghajggnakhobaa", sum := "d627403c8e3f89ccab9fff644b7c241f342ac4b8fbc9e153fe84293ef89e0e70", func := "winnow/winnowlaw1.CrcZeros", spec := "crcZeros", apart := false, narrowed := true }
def CrcZerosUptoSaid : Prop := crcZerosUptoRow.holds Try.pinned (OpenSpec.upto crcZerosSpec)

/-- 'winnowlaw1.CrcRunning', WHERE WHAT IT READS IS OF BULK AT MOST 1048576: true; the input reads as it did. -/
def crcRunningUptoRow : OpenClaim := { program := "ytghajggnakhobaa", sum := "d627403c8e3f89ccab9fff644b7c241f342ac4b8fbc9e153fe84293ef89e0e70", func := "winnow/winnowlaw1.CrcRunning", spec := "crcRunning", apart := false, narrowed := true }
def CrcRunningUptoSaid : Prop := crcRunningUptoRow.holds Try.pinned (OpenSpec.upto crcRunningSpec)

/-- 'winnowlaw1.CrcFar', WHERE WHAT IT READS IS OF BULK AT MOST 1048576: true; the input reads as it did. -/
def crcFarUptoRow : OpenClaim := { program := "ytghajggnakhobaa", sum := "d627403c8e3f89ccab9fff644b7c241f342ac4b8fbc9e153fe84293ef89e0e70", func := "winnow/winnowlaw1.CrcFar", spec := "crcFar", apart := false, narrowed := true }
def CrcFarUptoSaid : Prop := crcFarUptoRow.holds Try.pinned (OpenSpec.upto crcFarSpec)

/-- 'winnowlaw1.CrcParts', WHERE WHAT IT READS IS OF BULK AT MOST 1048576: true; the input reads as it did. -/
def crcPartsUptoRow : OpenClaim := { program := "ytghajggnakhobaa", sum := "d627403c8e3f89ccab9fff644b7c241f342ac4b8fbc9e153fe84293ef89e0e70", func := "winnow/winnowlaw1.CrcParts", spec := "crcParts", apart := false, narrowed := true }
def CrcPartsUptoSaid : Prop := crcPartsUptoRow.holds Try.pinned (OpenSpec.upto crcPartsSpec)

end Rows
end Go.Proofs.Ytghajggnakhobaa
