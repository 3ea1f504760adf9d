/-
  DERIVED. GIVEN WITH THE SEED: THE CARDS: each row of YthmdgjdgnfoloaaDoorRows.lean that lists a variable, with what it lists TIED to the program's text (the seventh form; the later family's looks); each row that meets fmt, with fmt's text TOLD by the authors' own Lean function (tested against real Go, not proved from fmt's source: count such statements apart). THE CARD IS WHAT COUNTS. Prove the row's statement (the work); the ties are given (YthmdgjdgnfoloaaDoorTie.lean); close each card by the builder's one call (the guide's Derived/Test/ToyasCard.lean, 'card_holds'). Laid BY PROGRAM, IN A SANDBOX (cutbox-door.mjs). By AI agents, Wed Nov 11 2026. No macro, syntax, notation, axiom, sorry.
-/
import Derived.Test.YthmdgjdgnfoloaaDoorRows
import GoSem.ClaimSeven
namespace Go.Proofs.YthmdgjdgnfoloaaDoor
namespace Rows

/-- THE TIED CARD OF 'tidewracklaw12.BookLong'. -/
def bookLongCard : Claim7 := { stood := { row := bookLongRow, standIns := [], harness := (true, "453f1f5992d4398dd138e9154239308d284274268244ecc6954484994dcca7de"), looks := false }, kinds := [], alts := [], laidByText := true, laidKinds := [.data, .widerDeep, .widerDeep], laidTests := true, laidLooks := .later }
def BookLongCardSaid : Prop := Claim7.holds Tryd.pinned (.plain (OpenSpec.ofChange bookLongSpec)) bookLongCard

/-- THE TIED CARD OF 'tidewracklaw12.BookJoins'. -/
def bookJoinsCard : Claim7 := { stood := { row := bookJoinsRow, standIns := [], harness := (true, "453f1f5992d4398dd138e9154239308d284274268244ecc6954484994dcca7de"), looks := false }, kinds := [], alts := [], laidByText := true, laidKinds := [.data, .widerDeep, .widerDeep], laidTests := true, laidLooks := .later }
def BookJoinsCardSaid : Prop := Claim7.holds Tryd.pinned (.plain (OpenSpec.ofChange bookJoinsSpec)) bookJoinsCard

/-- THE TIED CARD OF 'tidewracklaw12.BookBlanks'. -/
def bookBlanksCard : Claim7 := { stood := { row := bookBlanksRow, standIns := [], harness := (true, "453f1f5992d4398dd138e9154239308d284274268244ecc6954484994dcca7de"), looks := false }, kinds := [], alts := [], laidByText := true, laidKinds := [.data, .widerDeep, .widerDeep], laidTests := true, laidLooks := .later }
def BookBlanksCardSaid : Prop := Claim7.holds Tryd.pinned (.plain (OpenSpec.ofChange bookBlanksSpec)) bookBlanksCard

/-- THE TIED CARD OF 'tidewracklaw12.BookStays'. -/
def bookStaysCard : Claim7 := { stood := { row := bookStaysRow, standIns := [], harness := (true, "453f1f5992d4398dd138e9154239308d284274268244ecc6954484994dcca7de"), looks := false }, kinds := [], alts := [], laidByText := true, laidKinds := [.data, .widerDeep, .widerDeep], laidTests := true, laidLooks := .later }
def BookStaysCardSaid : Prop := Claim7.holds Tryd.pinned (.plain (OpenSpec.ofChange bookStaysSpec)) bookStaysCard

/-- THE TIED CARD OF 'tidewracklaw12.BookReads'. -/
def bookReadsCard : Claim7 := { stood := { row := bookReadsRow, standIns := [], harness := (true, "453f1f5992d4398dd138e9154239308d284274268244ecc6954484994dcca7de"), looks := false }, kinds := [], alts := [], laidByText := true, laidKinds := [.data, .widerDeep, .widerDeep], laidTests := true, laidLooks := .later }
def BookReadsCardSaid : Prop := Claim7.holds Tryd.pinned (.plain (OpenSpec.ofChange bookReadsSpec)) bookReadsCard

/-- THE TIED CARD OF 'tidewracklaw12.BookBack'. -/
def bookBackCard : Claim7 := { stood := { row := bookBackRow, standIns := [], harness := (true, "453f1f5992d4398dd138e9154239308d284274268244ecc6954484994dcca7de"), looks := false }, kinds := [], alts := [], laidByText := true, laidKinds := [.data, .widerDeep, .widerDeep], laidTests := true, laidLooks := .later }
def BookBackCardSaid : Prop := Claim7.holds Tryd.pinned (.plain (OpenSpec.ofChange bookBackSpec)) bookBackCard

/-- THE SECOND FORM's CARD OF 'tidewracklaw12.BookLong'. -/
def bookLongUptoCard : Claim7 := { stood := { row := bookLongUptoRow, standIns := [], harness := (true, "453f1f5992d4398dd138e9154239308d284274268244ecc6954484994dcca7de"), looks := false }, kinds := [], alts := [], laidByText := true, laidKinds := [.data, .widerDeep, .widerDeep], laidTests := true, laidLooks := .later }
def BookLongUptoCardSaid : Prop := Claim7.holds Tryd.pinned (.plain (OpenSpec.upto bookLongSpec)) bookLongUptoCard

/-- THE SECOND FORM's CARD OF 'tidewracklaw12.BookJoins'. -/
def bookJoinsUptoCard : Claim7 := { stood := { row := bookJoinsUptoRow, standIns := [], harness := (true, "453f1f5992d4398dd138e9154239308d284274268244ecc6954484994dcca7de"), looks := false }, kinds := [], alts := [], laidByText := true, laidKinds := [.data, .widerDeep, .widerDeep], laidTests := true, laidLooks := .later }
def BookJoinsUptoCardSaid : Prop := Claim7.holds Tryd.pinned (.plain (OpenSpec.upto bookJoinsSpec)) bookJoinsUptoCard

/-- THE SECOND FORM's CARD OF 'tidewracklaw12.BookBlanks'. -/
def bookBlanksUptoCard : Claim7 := { stood := { row := bookBlanksUptoRow, standIns := [], harness := (true, "453f1f5992d4398dd138e9154239308d284274268244ecc6954484994dcca7de"), looks := false }, kinds := [], alts := [], laidByText := true, laidKinds := [.data, .widerDeep, .widerDeep], laidTests := true, laidLooks := .later }
def BookBlanksUptoCardSaid : Prop := Claim7.holds Tryd.pinned (.plain (OpenSpec.upto bookBlanksSpec)) bookBlanksUptoCard

/-- THE SECOND FORM's CARD OF 'tidewracklaw12.BookStays'. -/
def bookStaysUptoCard : Claim7 := { stood := { row := bookStaysUptoRow, standIns := [], harness := (true, "453f1f5992d4398dd138e9154239308d284274268244ecc6954484994dcca7de"), looks := false }, kinds := [], alts := [], laidByText := true, laidKinds := [.data, .widerDeep, .widerDeep], laidTests := true, laidLooks := .later }
def BookStaysUptoCardSaid : Prop := Claim7.holds Tryd.pinned (.plain (OpenSpec.upto bookStaysSpec)) bookStaysUptoCard

/-- THE SECOND FORM's CARD OF 'tidewracklaw12.BookReads'. -/
def bookReadsUptoCard : Claim7 := { stood := { row := bookReadsUptoRow, standIns := [], harness := (true, "453f1f5992d4398dd138e9154239308d284274268244ecc6954484994dcca7de"), looks := false }, kinds := [], alts := [], laidByText := true, laidKinds := [.data, .widerDeep, .widerDeep], laidTests := true, laidLooks := .later }
def BookReadsUptoCardSaid : Prop := Claim7.holds Tryd.pinned (.plain (OpenSpec.upto bookReadsSpec)) bookReadsUptoCard

/-- THE SECOND FORM's CARD OF 'tidewracklaw12.BookBack'. -/
def bookBackUptoCard : Claim7 := { stood := { row := bookBackUptoRow, standIns := [], harness := (true, "453f1f5992d4398dd138e9154239308d284274268244ecc6954484994dcca7de"), looks := false }, kinds := [], alts := [], laidByText := true, laidKinds := [.data, .widerDeep, .widerDeep], laidTests := true, laidLooks := .later }
def BookBackUptoCardSaid : Prop := Claim7.holds Tryd.pinned (.plain (OpenSpec.upto bookBackSpec)) bookBackUptoCard
end Rows
end Go.Proofs.YthmdgjdgnfoloaaDoor
