/-
  DERIVED. GIVEN WITH THE SEED: THE CARDS: each row of YtponmfnegdlppaaDoorRows.lean that lists a variable, with what it lists TIED to the program's text (the seventh form; the later family's looks); each row that meets fmt, with fmt's text TOLD by the authors' own Lean function (tested against real Go, not proved from fmt's source: count such statements apart). THE CARD IS WHAT COUNTS. Prove the row's statement (the work); the ties are given (YtponmfnegdlppaaDoorTie.lean); close each card by the builder's one call (the guide's Derived/Test/ToyasCard.lean, 'card_holds'). Laid BY PROGRAM, IN A SANDBOX (cutbox-door.mjs). By AI agents, Wed Nov 11 2026. No macro, syntax, notation, axiom, sorry.
-/
import Derived.Test.YtponmfnegdlppaaDoorRows
import GoSem.ClaimSeven
namespace Go.Proofs.YtponmfnegdlppaaDoor
namespace Rows

/-- THE TIED CARD OF 'winnowlaw19.LedgerAsks'. -/
def ledgerAsksCard : Claim7 := { stood := { row := ledgerAsksRow, standIns := [], harness := (true, "408aea43a939abf23a7ec6ec21ad89c854d8360e0b9c75e11978e509eba81c58"), looks := false }, kinds := [], alts := [], laidByText := true, laidKinds := [.data], laidTests := true, laidLooks := .later }
def LedgerAsksCardSaid : Prop := Claim7.holds Tryd.pinned (.plain (OpenSpec.ofChange ledgerAsksSpec)) ledgerAsksCard

/-- THE TIED CARD OF 'winnowlaw19.LedgerEnds'. -/
def ledgerEndsCard : Claim7 := { stood := { row := ledgerEndsRow, standIns := [], harness := (true, "408aea43a939abf23a7ec6ec21ad89c854d8360e0b9c75e11978e509eba81c58"), looks := false }, kinds := [], alts := [], laidByText := true, laidKinds := [.data], laidTests := true, laidLooks := .later }
def LedgerEndsCardSaid : Prop := Claim7.holds Tryd.pinned (.plain (OpenSpec.ofChange ledgerEndsSpec)) ledgerEndsCard

/-- THE TIED CARD OF 'winnowlaw19.LedgerBegins'. -/
def ledgerBeginsCard : Claim7 := { stood := { row := ledgerBeginsRow, standIns := [], harness := (true, "408aea43a939abf23a7ec6ec21ad89c854d8360e0b9c75e11978e509eba81c58"), looks := false }, kinds := [], alts := [], laidByText := true, laidKinds := [.data], laidTests := true, laidLooks := .later }
def LedgerBeginsCardSaid : Prop := Claim7.holds Tryd.pinned (.plain (OpenSpec.ofChange ledgerBeginsSpec)) ledgerBeginsCard

/-- THE TIED CARD OF 'winnowlaw19.LedgerBlames'. -/
def ledgerBlamesCard : Claim7 := { stood := { row := ledgerBlamesRow, standIns := [], harness := (true, "408aea43a939abf23a7ec6ec21ad89c854d8360e0b9c75e11978e509eba81c58"), looks := false }, kinds := [], alts := [], laidByText := true, laidKinds := [.data], laidTests := true, laidLooks := .later }
def LedgerBlamesCardSaid : Prop := Claim7.holds Tryd.pinned (.plain (OpenSpec.ofChange ledgerBlamesSpec)) ledgerBlamesCard

/-- THE TIED CARD OF 'winnowlaw19.LedgerStays'. -/
def ledgerStaysCard : Claim7 := { stood := { row := ledgerStaysRow, standIns := [], harness := (true, "408aea43a939abf23a7ec6ec21ad89c854d8360e0b9c75e11978e509eba81c58"), looks := false }, kinds := [], alts := [], laidByText := true, laidKinds := [.data], laidTests := true, laidLooks := .later }
def LedgerStaysCardSaid : Prop := Claim7.holds Tryd.pinned (.plain (OpenSpec.ofChange ledgerStaysSpec)) ledgerStaysCard

/-- THE TIED CARD OF 'winnowlaw19.LedgerPaid'. -/
def ledgerPaidCard : Claim7 := { stood := { row := ledgerPaidRow, standIns := [], harness := (true, "408aea43a939abf23a7ec6ec21ad89c854d8360e0b9c75e11978e509eba81c58"), looks := false }, kinds := [], alts := [], laidByText := true, laidKinds := [.data], laidTests := true, laidLooks := .later }
def LedgerPaidCardSaid : Prop := Claim7.holds Tryd.pinned (.plain (OpenSpec.ofChange ledgerPaidSpec)) ledgerPaidCard

/-- THE TIED CARD OF 'winnowlaw19.LedgerComes'. -/
def ledgerComesCard : Claim7 := { stood := { row := ledgerComesRow, standIns := [], harness := (true, "408aea43a939abf23a7ec6ec21ad89c854d8360e0b9c75e11978e509eba81c58"), looks := false }, kinds := [], alts := [], laidByText := true, laidKinds := [.data], laidTests := true, laidLooks := .later }
def LedgerComesCardSaid : Prop := Claim7.holds Tryd.pinned (.plain (OpenSpec.ofChange ledgerComesSpec)) ledgerComesCard

/-- THE SECOND FORM's CARD OF 'winnowlaw19.LedgerAsks'. -/
def ledgerAsksUptoCard : Claim7 := { stood := { row := ledgerAsksUptoRow, standIns := [], harness := (true, "408aea43a939abf23a7ec6ec21ad89c854d8360e0b9c75e11978e509eba81c58"), looks := false }, kinds := [], alts := [], laidByText := true, laidKinds := [.data], laidTests := true, laidLooks := .later }
def LedgerAsksUptoCardSaid : Prop := Claim7.holds Tryd.pinned (.plain (OpenSpec.upto ledgerAsksSpec)) ledgerAsksUptoCard

/-- THE SECOND FORM's CARD OF 'winnowlaw19.LedgerEnds'. -/
def ledgerEndsUptoCard : Claim7 := { stood := { row := ledgerEndsUptoRow, standIns := [], harness := (true, "408aea43a939abf23a7ec6ec21ad89c854d8360e0b9c75e11978e509eba81c58"), looks := false }, kinds := [], alts := [], laidByText := true, laidKinds := [.data], laidTests := true, laidLooks := .later }
def LedgerEndsUptoCardSaid : Prop := Claim7.holds Tryd.pinned (.plain (OpenSpec.upto ledgerEndsSpec)) ledgerEndsUptoCard

/-- THE SECOND FORM's CARD OF 'winnowlaw19.LedgerBegins'. -/
def ledgerBeginsUptoCard : Claim7 := { stood := { row := ledgerBeginsUptoRow, standIns := [], harness := (true, "408aea43a939abf23a7ec6ec21ad89c854d8360e0b9c75e11978e509eba81c58"), looks := false }, kinds := [], alts := [], laidByText := true, laidKinds := [.data], laidTests := true, laidLooks := .later }
def LedgerBeginsUptoCardSaid : Prop := Claim7.holds Tryd.pinned (.plain (OpenSpec.upto ledgerBeginsSpec)) ledgerBeginsUptoCard

/-- THE SECOND FORM's CARD OF 'winnowlaw19.LedgerBlames'. -/
def ledgerBlamesUptoCard : Claim7 := { stood := { row := ledgerBlamesUptoRow, standIns := [], harness := (true, "408aea43a939abf23a7ec6ec21ad89c854d8360e0b9c75e11978e509eba81c58"), looks := false }, kinds := [], alts := [], laidByText := true, laidKinds := [.data], laidTests := true, laidLooks := .later }
def LedgerBlamesUptoCardSaid : Prop := Claim7.holds Tryd.pinned (.plain (OpenSpec.upto ledgerBlamesSpec)) ledgerBlamesUptoCard

/-- THE SECOND FORM's CARD OF 'winnowlaw19.LedgerStays'. -/
def ledgerStaysUptoCard : Claim7 := { stood := { row := ledgerStaysUptoRow, standIns := [], harness := (true, "408aea43a939abf23a7ec6ec21ad89c854d8360e0b9c75e11978e509eba81c58"), looks := false }, kinds := [], alts := [], laidByText := true, laidKinds := [.data], laidTests := true, laidLooks := .later }
def LedgerStaysUptoCardSaid : Prop := Claim7.holds Tryd.pinned (.plain (OpenSpec.upto ledgerStaysSpec)) ledgerStaysUptoCard

/-- THE SECOND FORM's CARD OF 'winnowlaw19.LedgerPaid'. -/
def ledgerPaidUptoCard : Claim7 := { stood := { row := ledgerPaidUptoRow, standIns := [], harness := (true, "408aea43a939abf23a7ec6ec21ad89c854d8360e0b9c75e11978e509eba81c58"), looks := false }, kinds := [], alts := [], laidByText := true, laidKinds := [.data], laidTests := true, laidLooks := .later }
def LedgerPaidUptoCardSaid : Prop := Claim7.holds Tryd.pinned (.plain (OpenSpec.upto ledgerPaidSpec)) ledgerPaidUptoCard

/-- THE SECOND FORM's CARD OF 'winnowlaw19.LedgerComes'. -/
def ledgerComesUptoCard : Claim7 := { stood := { row := ledgerComesUptoRow, standIns := [], harness := (true, "408aea43a939abf23a7ec6ec21ad89c854d8360e0b9c75e11978e509eba81c58"), looks := false }, kinds := [], alts := [], laidByText := true, laidKinds := [.data], laidTests := true, laidLooks := .later }
def LedgerComesUptoCardSaid : Prop := Claim7.holds Tryd.pinned (.plain (OpenSpec.upto ledgerComesSpec)) ledgerComesUptoCard
end Rows
end Go.Proofs.YtponmfnegdlppaaDoor
