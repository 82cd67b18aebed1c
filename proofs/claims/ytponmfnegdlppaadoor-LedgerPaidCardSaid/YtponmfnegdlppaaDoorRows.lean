/-
  NARROWER THAN 'FOR EVERY INPUT', by the rows' own cells (each row's printed sentence says how): LedgerAsks: laid · LedgerEnds: laid · LedgerBegins: laid · LedgerBlames: laid · LedgerStays: laid · LedgerPaid: laid · LedgerComes: laid.
  DERIVED. THE GIVEN ROWS OF THIS SEAT. 7 by the template 'for every input the law returns true; each argument reads behind the call as it read before'; 0 by the template 'total and deterministic' (their statements: YtponmfnegdlppaaDoorTotals.lean).
  GIVEN WITH THE SEED: the statements are not yours to turn. If you find one false, say at which input.
  Laid BY PROGRAM, IN A SANDBOX (cutbox-rows.mjs): the forced cells as the released guide's own fill.sh prints them over the translation 2ee2526ae53a64a2… (all of the seat's roots in one cut). By AI agents, Wed Nov 11 2026. No macro, syntax, notation, axiom, sorry.
-/
import Derived.Test.YtponmfnegdlppaaDoorChecked
import GoSem.Claim
import GoSem.ClaimJoined
import GoSem.ClaimMapViews
import Derived.JoinedTies
import Derived.KernelRfl
namespace Go.Proofs.YtponmfnegdlppaaDoor
/- THE CELL 'sum', in the pinned program and in every row, IS THE sha256 OF THE DUMP (.gsa) THAT YtponmfnegdlppaaDoorProg.lean LOADS. Nothing in Lean hashes anything: it is a label: what it is worth is what the hold of that sum in a sandbox is worth. -/
noncomputable def Tryd.pinned : Pinned := { name := "ytponmfnegdlppaadoor", sum := "2ee2526ae53a64a251fa034d923b99d88fb8db5e9e29873793efa714e00b3132", checked := Tryd.checked }
namespace Rows
def none {H : Type} : Left H := { results := [], args := [] }

/- WHAT THE LISTED PACKAGE-LEVEL VARIABLES READ AS WHEN THE CALL BEGINS. Each datum BY PROGRAM (the guide's laid-datum.mjs) off the statement by which the dump's own 'gosem.cut.vars' lays the variable. In a bare row this is a premise. The card (YtponmfnegdlppaaDoorCards.lean) ties it to the program's text. -/
def laid_winnow_ledger_spent {H : Type} : DataW H := .agg [.lit (.int .i64 0), .lit (.int .i64 1), .lit (.int .i64 1), .lit (.int .i64 1)]

/-- 'winnowlaw19.LedgerAsks': WHATEVER THE INPUT: true; the input reads as it did. -/
def ledgerAsksSpec : ChangeSpec := { name := "ledgerAsks", fn := fun _ => fun
  | [d] => { results := [.lit (.bool true)], args := [d] }
  | _ => none }
def ledgerAsksRow : OpenClaim := { program := "ytponmfnegdlppaadoor", sum := "2ee2526ae53a64a251fa034d923b99d88fb8db5e9e29873793efa714e00b3132", func := "winnow/winnowlaw19.LedgerAsks", spec := "ledgerAsks", named := ["winnow/ledger.spent"], apart := false, laid := [("winnow/ledger.spent", laid_winnow_ledger_spent)] }
def LedgerAsksSaid : Prop := ledgerAsksRow.holds Tryd.pinned (OpenSpec.ofChange ledgerAsksSpec)

/-- ITS FALSE NEIGHBOUR: 'it returns false'. Refute it at one input. -/
def ledgerAsksWrong : ChangeSpec := { name := "ledgerAsks", fn := fun _ => fun
  | [d] => { results := [.lit (.bool false)], args := [d] }
  | _ => none }
def LedgerAsksWrongFalsely : Prop := ledgerAsksRow.holds Tryd.pinned (OpenSpec.ofChange ledgerAsksWrong)

/-- 'winnowlaw19.LedgerEnds': WHATEVER THE INPUT: true; the input reads as it did. -/
def ledgerEndsSpec : ChangeSpec := { name := "ledgerEnds", fn := fun _ => fun
  | [d1, d2] => { results := [.lit (.bool true)], args := [d1, d2] }
  | _ => none }
def ledgerEndsRow : OpenClaim := { program := "ytponmfnegdlppaadoor", sum := "2ee2526ae53a64a251fa034d923b99d88fb8db5e9e29873793efa714e00b3132", func := "winnow/winnowlaw19.LedgerEnds", spec := "ledgerEnds", unfollowed := true, recurses := true, named := ["winnow/ledger.spent"], apart := false, laid := [("winnow/ledger.spent", laid_winnow_ledger_spent)] }
def LedgerEndsSaid : Prop := ledgerEndsRow.holds Tryd.pinned (OpenSpec.ofChange ledgerEndsSpec)

/-- ITS FALSE NEIGHBOUR: 'it returns false'. Refute it at one input. -/
def ledgerEndsWrong : ChangeSpec := { name := "ledgerEnds", fn := fun _ => fun
  | [d1, d2] => { results := [.lit (.bool false)], args := [d1, d2] }
  | _ => none }
def LedgerEndsWrongFalsely : Prop := ledgerEndsRow.holds Tryd.pinned (OpenSpec.ofChange ledgerEndsWrong)

/-- 'winnowlaw19.LedgerBegins': WHATEVER THE INPUT: true; the input reads as it did. -/
def ledgerBeginsSpec : ChangeSpec := { name := "ledgerBegins", fn := fun _ => fun
  | [d1, d2] => { results := [.lit (.bool true)], args := [d1, d2] }
  | _ => none }
def ledgerBeginsRow : OpenClaim := { program := "ytponmfnegdlppaadoor", sum := "2ee2526ae53a64a251fa034d923b99d88fb8db5e9e29873793efa714e00b3132", func := "winnow/winnowlaw19.LedgerBegins", spec := "ledgerBegins", unfollowed := true, recurses := true, named := ["winnow/ledger.spent"], apart := false, laid := [("winnow/ledger.spent", laid_winnow_ledger_spent)] }
def LedgerBeginsSaid : Prop := ledgerBeginsRow.holds Tryd.pinned (OpenSpec.ofChange ledgerBeginsSpec)

/-- ITS FALSE NEIGHBOUR: 'it returns false'. Refute it at one input. -/
def ledgerBeginsWrong : ChangeSpec := { name := "ledgerBegins", fn := fun _ => fun
  | [d1, d2] => { results := [.lit (.bool false)], args := [d1, d2] }
  | _ => none }
def LedgerBeginsWrongFalsely : Prop := ledgerBeginsRow.holds Tryd.pinned (OpenSpec.ofChange ledgerBeginsWrong)

/-- 'winnowlaw19.LedgerBlames': WHATEVER THE INPUT: true; the input reads as it did. -/
def ledgerBlamesSpec : ChangeSpec := { name := "ledgerBlames", fn := fun _ => fun
  | [d1, d2, d3, d4] => { results := [.lit (.bool true)], args := [d1, d2, d3, d4] }
  | _ => none }
def ledgerBlamesRow : OpenClaim := { program := "ytponmfnegdlppaadoor", sum := "2ee2526ae53a64a251fa034d923b99d88fb8db5e9e29873793efa714e00b3132", func := "winnow/winnowlaw19.LedgerBlames", spec := "ledgerBlames", unfollowed := true, recurses := true, named := ["winnow/ledger.spent"], apart := false, laid := [("winnow/ledger.spent", laid_winnow_ledger_spent)] }
def LedgerBlamesSaid : Prop := ledgerBlamesRow.holds Tryd.pinned (OpenSpec.ofChange ledgerBlamesSpec)

/-- ITS FALSE NEIGHBOUR: 'it returns false'. Refute it at one input. -/
def ledgerBlamesWrong : ChangeSpec := { name := "ledgerBlames", fn := fun _ => fun
  | [d1, d2, d3, d4] => { results := [.lit (.bool false)], args := [d1, d2, d3, d4] }
  | _ => none }
def LedgerBlamesWrongFalsely : Prop := ledgerBlamesRow.holds Tryd.pinned (OpenSpec.ofChange ledgerBlamesWrong)

/-- 'winnowlaw19.LedgerStays': WHATEVER THE INPUT: true; the input reads as it did. -/
def ledgerStaysSpec : ChangeSpec := { name := "ledgerStays", fn := fun _ => fun
  | [d1, d2, d3, d4] => { results := [.lit (.bool true)], args := [d1, d2, d3, d4] }
  | _ => none }
def ledgerStaysRow : OpenClaim := { program := "ytponmfnegdlppaadoor", sum := "2ee2526ae53a64a251fa034d923b99d88fb8db5e9e29873793efa714e00b3132", func := "winnow/winnowlaw19.LedgerStays", spec := "ledgerStays", unfollowed := true, recurses := true, named := ["winnow/ledger.spent"], apart := false, laid := [("winnow/ledger.spent", laid_winnow_ledger_spent)] }
def LedgerStaysSaid : Prop := ledgerStaysRow.holds Tryd.pinned (OpenSpec.ofChange ledgerStaysSpec)

/-- ITS FALSE NEIGHBOUR: 'it returns false'. Refute it at one input. -/
def ledgerStaysWrong : ChangeSpec := { name := "ledgerStays", fn := fun _ => fun
  | [d1, d2, d3, d4] => { results := [.lit (.bool false)], args := [d1, d2, d3, d4] }
  | _ => none }
def LedgerStaysWrongFalsely : Prop := ledgerStaysRow.holds Tryd.pinned (OpenSpec.ofChange ledgerStaysWrong)

/-- 'winnowlaw19.LedgerPaid': WHATEVER THE INPUT: true; the input reads as it did. -/
def ledgerPaidSpec : ChangeSpec := { name := "ledgerPaid", fn := fun _ => fun
  | [d1, d2, d3, d4] => { results := [.lit (.bool true)], args := [d1, d2, d3, d4] }
  | _ => none }
def ledgerPaidRow : OpenClaim := { program := "ytponmfnegdlppaadoor", sum := "2ee2526ae53a64a251fa034d923b99d88fb8db5e9e29873793efa714e00b3132", func := "winnow/winnowlaw19.LedgerPaid", spec := "ledgerPaid", unfollowed := true, recurses := true, named := ["winnow/ledger.spent"], apart := false, laid := [("winnow/ledger.spent", laid_winnow_ledger_spent)] }
def LedgerPaidSaid : Prop := ledgerPaidRow.holds Tryd.pinned (OpenSpec.ofChange ledgerPaidSpec)

/-- ITS FALSE NEIGHBOUR: 'it returns false'. Refute it at one input. -/
def ledgerPaidWrong : ChangeSpec := { name := "ledgerPaid", fn := fun _ => fun
  | [d1, d2, d3, d4] => { results := [.lit (.bool false)], args := [d1, d2, d3, d4] }
  | _ => none }
def LedgerPaidWrongFalsely : Prop := ledgerPaidRow.holds Tryd.pinned (OpenSpec.ofChange ledgerPaidWrong)

/-- 'winnowlaw19.LedgerComes': WHATEVER THE INPUT: true; the input reads as it did. -/
def ledgerComesSpec : ChangeSpec := { name := "ledgerComes", fn := fun _ => fun
  | [d1, d2, d3, d4, d5] => { results := [.lit (.bool true)], args := [d1, d2, d3, d4, d5] }
  | _ => none }
def ledgerComesRow : OpenClaim := { program := "ytponmfnegdlppaadoor", sum := "2ee2526ae53a64a251fa034d923b99d88fb8db5e9e29873793efa714e00b3132", func := "winnow/winnowlaw19.LedgerComes", spec := "ledgerComes", unfollowed := true, recurses := true, named := ["winnow/ledger.spent"], apart := false, laid := [("winnow/ledger.spent", laid_winnow_ledger_spent)] }
def LedgerComesSaid : Prop := ledgerComesRow.holds Tryd.pinned (OpenSpec.ofChange ledgerComesSpec)

/-- ITS FALSE NEIGHBOUR: 'it returns false'. Refute it at one input. -/
def ledgerComesWrong : ChangeSpec := { name := "ledgerComes", fn := fun _ => fun
  | [d1, d2, d3, d4, d5] => { results := [.lit (.bool false)], args := [d1, d2, d3, d4, d5] }
  | _ => none }
def LedgerComesWrongFalsely : Prop := ledgerComesRow.holds Tryd.pinned (OpenSpec.ofChange ledgerComesWrong)

/- THE SECOND FORM. 'bulk': how many values and letters a reading holds, each counted each time it is reached (what is shared counts as often as it is met; a slice's spare places count too). A statement '..UptoSaid' is the law's where the arguments, and the package variables that the reading takes, are together of bulk at most 1048576: NARROWER than '..Said'. Prove '..Said' where nothing that the law and all that it calls make is longer than what came in: it says more and counts as full. Else prove '..UptoSaid'. A law counts once. -/
mutual
def uptoBulk {H : Type} : DataW H → Nat
  | .lit (.string bytes) => bytes.length + 1
  | .lit _ => 1
  | .nil => 1
  | .ptr d => uptoBulk d + 1
  | .slice elems spare => uptoBulkAll elems + uptoBulkAll spare + 1
  | .agg parts => uptoBulkAll parts + 1
  | .iface _ d => uptoBulk d + 1
  | .map entries => uptoBulkEntries entries + 1
  | .held _ => 1
def uptoBulkAll {H : Type} : List (DataW H) → Nat
  | [] => 0
  | d :: r => uptoBulk d + uptoBulkAll r
def uptoBulkEntries {H : Type} : List (Lit × DataW H) → Nat
  | [] => 0
  | x :: r => uptoBulkEntry x + uptoBulkEntries r
def uptoBulkEntry {H : Type} : Lit × DataW H → Nat
  | (.string bytes, d) => bytes.length + uptoBulk d + 1
  | (_, d) => uptoBulk d + 1
 end
def uptoSmall : (H : Type) → List (DataW H) → Bool := fun _ ds => decide (uptoBulkAll ds ≤ 1048576)
def OpenSpec.upto (s : _root_.Go.ChangeSpec) : _root_.Go.OpenSpec := { _root_.Go.OpenSpec.ofChange s with cond := some uptoSmall }

/-- 'winnowlaw19.LedgerAsks', WHERE WHAT IT READS IS OF BULK AT MOST 1048576: true; the input reads as it did. -/
def ledgerAsksUptoRow : OpenClaim := { program := "ytponmfnegdlppaadoor", sum := "2ee2526ae53a64a251fa034d923b99d88fb8db5e9e29873793efa714e00b3132", func := "winnow/winnowlaw19.LedgerAsks", spec := "ledgerAsks", named := ["winnow/ledger.spent"], apart := false, laid := [("winnow/ledger.spent", laid_winnow_ledger_spent)], narrowed := true }
def LedgerAsksUptoSaid : Prop := ledgerAsksUptoRow.holds Tryd.pinned (OpenSpec.upto ledgerAsksSpec)

/-- 'winnowlaw19.LedgerEnds', WHERE WHAT IT READS IS OF BULK AT MOST 1048576: true; the input reads as it did. -/
def ledgerEndsUptoRow : OpenClaim := { program := "ytponmfnegdlppaadoor", sum := "2ee2526ae53a64a251fa034d923b99d88fb8db5e9e29873793efa714e00b3132", func := "winnow/winnowlaw19.LedgerEnds", spec := "ledgerEnds", unfollowed := true, recurses := true, named := ["winnow/ledger.spent"], apart := false, laid := [("winnow/ledger.spent", laid_winnow_ledger_spent)], narrowed := true }
def LedgerEndsUptoSaid : Prop := ledgerEndsUptoRow.holds Tryd.pinned (OpenSpec.upto ledgerEndsSpec)

/-- 'winnowlaw19.LedgerBegins', WHERE WHAT IT READS IS OF BULK AT MOST 1048576: true; the input reads as it did. -/
def ledgerBeginsUptoRow : OpenClaim := { program := "ytponmfnegdlppaadoor", sum := "2ee2526ae53a64a251fa034d923b99d88fb8db5e9e29873793efa714e00b3132", func := "winnow/winnowlaw19.LedgerBegins", spec := "ledgerBegins", unfollowed := true, recurses := true, named := ["winnow/ledger.spent"], apart := false, laid := [("winnow/ledger.spent", laid_winnow_ledger_spent)], narrowed := true }
def LedgerBeginsUptoSaid : Prop := ledgerBeginsUptoRow.holds Tryd.pinned (OpenSpec.upto ledgerBeginsSpec)

/-- 'winnowlaw19.LedgerBlames', WHERE WHAT IT READS IS OF BULK AT MOST 1048576: true; the input reads as it did. -/
def ledgerBlamesUptoRow : OpenClaim := { program := "ytponmfnegdlppaadoor", sum := "2ee2526ae53a64a251fa034d923b99d88fb8db5e9e29873793efa714e00b3132", func := "winnow/winnowlaw19.LedgerBlames", spec := "ledgerBlames", unfollowed := true, recurses := true, named := ["winnow/ledger.spent"], apart := false, laid := [("winnow/ledger.spent", laid_winnow_ledger_spent)], narrowed := true }
def LedgerBlamesUptoSaid : Prop := ledgerBlamesUptoRow.holds Tryd.pinned (OpenSpec.upto ledgerBlamesSpec)

/-- 'winnowlaw19.LedgerStays', WHERE WHAT IT READS IS OF BULK AT MOST 1048576: true; the input reads as it did. -/
def ledgerStaysUptoRow : OpenClaim := { program := "ytponmfnegdlppaadoor", sum := "2ee2526ae53a64a251fa034d923b99d88fb8db5e9e29873793efa714e00b3132", func := "winnow/winnowlaw19.LedgerStays", spec := "ledgerStays", unfollowed := true, recurses := true, named := ["winnow/ledger.spent"], apart := false, laid := [("winnow/ledger.spent", laid_winnow_ledger_spent)], narrowed := true }
def LedgerStaysUptoSaid : Prop := ledgerStaysUptoRow.holds Tryd.pinned (OpenSpec.upto ledgerStaysSpec)

/-- 'winnowlaw19.LedgerPaid', WHERE WHAT IT READS IS OF BULK AT MOST 1048576: true; the input reads as it did. -/
def ledgerPaidUptoRow : OpenClaim := { program := "ytponmfnegdlppaadoor", sum := "2ee2526ae53a64a251fa034d923b99d88fb8db5e9e29873793efa714e00b3132", func := "winnow/winnowlaw19.LedgerPaid", spec := "ledgerPaid", unfollowed := true, recurses := true, named := ["winnow/ledger.spent"], apart := false, laid := [("winnow/ledger.spent", laid_winnow_ledger_spent)], narrowed := true }
def LedgerPaidUptoSaid : Prop := ledgerPaidUptoRow.holds Tryd.pinned (OpenSpec.upto ledgerPaidSpec)

/-- 'winnowlaw19.LedgerComes', WHERE WHAT IT READS IS OF BULK AT MOST 1048576: true; the input reads as it did. -/
def ledgerComesUptoRow : OpenClaim := { program := "ytponmfnegdlppaadoor", sum := "2ee2526ae53a64a251fa034d923b99d88fb8db5e9e29873793efa714e00b3132", func := "winnow/winnowlaw19.LedgerComes", spec := "ledgerComes", unfollowed := true, recurses := true, named := ["winnow/ledger.spent"], apart := false, laid := [("winnow/ledger.spent", laid_winnow_ledger_spent)], narrowed := true }
def LedgerComesUptoSaid : Prop := ledgerComesUptoRow.holds Tryd.pinned (OpenSpec.upto ledgerComesSpec)

end Rows
end Go.Proofs.YtponmfnegdlppaaDoor
