/-
  DERIVED. GIVEN WITH THE SEED: THE CARDS: each row of YticilepdpobheaaDoorRows.lean that lists a variable, with what it lists TIED to the program's text (the seventh form; the later family's looks); each row that meets fmt, with fmt's text TOLD by the authors' own Lean function (tested against real Go, not proved from fmt's source: count such statements apart). THE CARD IS WHAT COUNTS. Prove the row's statement (the work); the ties are given (YticilepdpobheaaDoorTie.lean); close each card by the builder's one call (the guide's Derived/Test/ToyasCard.lean, 'card_holds'). Laid BY PROGRAM, IN A SANDBOX (cutbox-door.mjs). By AI agents, Wed Nov 11 2026. No macro, syntax, notation, axiom, sorry.
-/
import Derived.Test.YticilepdpobheaaDoorRows
import GoSem.ClaimSeven
namespace Go.Proofs.YticilepdpobheaaDoor
namespace Rows

/-- THE TIED CARD OF 'tidewracklaw03.GramBack'. -/
def gramBackCard : Claim7 := { stood := { row := gramBackRow, standIns := [], harness := (true, "da1d41b3f439a2519bbb2c19fb45009a45a12cea40eafb05c260d7f55805a64a"), looks := false }, kinds := [], alts := [], laidByText := true, laidKinds := [.data], laidTests := true, laidLooks := .later }
def GramBackCardSaid : Prop := Claim7.holds Tryd.pinned (.plain (OpenSpec.ofChange gramBackSpec)) gramBackCard

/-- THE TIED CARD OF 'tidewracklaw03.GramParses'. -/
def gramParsesCard : Claim7 := { stood := { row := gramParsesRow, standIns := [], harness := (true, "da1d41b3f439a2519bbb2c19fb45009a45a12cea40eafb05c260d7f55805a64a"), looks := false }, kinds := [], alts := [], laidByText := true, laidKinds := [.data], laidTests := true, laidLooks := .later }
def GramParsesCardSaid : Prop := Claim7.holds Tryd.pinned (.plain (OpenSpec.ofChange gramParsesSpec)) gramParsesCard

/-- THE TIED CARD OF 'tidewracklaw03.GramLongest'. -/
def gramLongestCard : Claim7 := { stood := { row := gramLongestRow, standIns := [], harness := (true, "da1d41b3f439a2519bbb2c19fb45009a45a12cea40eafb05c260d7f55805a64a"), looks := false }, kinds := [], alts := [], laidByText := true, laidKinds := [.data], laidTests := true, laidLooks := .later }
def GramLongestCardSaid : Prop := Claim7.holds Tryd.pinned (.plain (OpenSpec.ofChange gramLongestSpec)) gramLongestCard

/-- THE TIED CARD OF 'tidewracklaw03.GramApart'. -/
def gramApartCard : Claim7 := { stood := { row := gramApartRow, standIns := [], harness := (true, "da1d41b3f439a2519bbb2c19fb45009a45a12cea40eafb05c260d7f55805a64a"), looks := false }, kinds := [], alts := [], laidByText := true, laidKinds := [.data], laidTests := true, laidLooks := .later }
def GramApartCardSaid : Prop := Claim7.holds Tryd.pinned (.plain (OpenSpec.ofChange gramApartSpec)) gramApartCard

/-- THE TIED CARD OF 'tidewracklaw03.GramTold'. -/
def gramToldCard : Claim7 := { stood := { row := gramToldRow, standIns := [], harness := (true, "da1d41b3f439a2519bbb2c19fb45009a45a12cea40eafb05c260d7f55805a64a"), looks := false }, kinds := [], alts := [], laidByText := true, laidKinds := [.data], laidTests := true, laidLooks := .later }
def GramToldCardSaid : Prop := Claim7.holds Tryd.pinned (.plain (OpenSpec.ofChange gramToldSpec)) gramToldCard

/-- THE SECOND FORM's CARD OF 'tidewracklaw03.GramBack'. -/
def gramBackUptoCard : Claim7 := { stood := { row := gramBackUptoRow, standIns := [], harness := (true, "da1d41b3f439a2519bbb2c19fb45009a45a12cea40eafb05c260d7f55805a64a"), looks := false }, kinds := [], alts := [], laidByText := true, laidKinds := [.data], laidTests := true, laidLooks := .later }
def GramBackUptoCardSaid : Prop := Claim7.holds Tryd.pinned (.plain (OpenSpec.upto gramBackSpec)) gramBackUptoCard

/-- THE SECOND FORM's CARD OF 'tidewracklaw03.GramParses'. -/
def gramParsesUptoCard : Claim7 := { stood := { row := gramParsesUptoRow, standIns := [], harness := (true, "da1d41b3f439a2519bbb2c19fb45009a45a12cea40eafb05c260d7f55805a64a"), looks := false }, kinds := [], alts := [], laidByText := true, laidKinds := [.data], laidTests := true, laidLooks := .later }
def GramParsesUptoCardSaid : Prop := Claim7.holds Tryd.pinned (.plain (OpenSpec.upto gramParsesSpec)) gramParsesUptoCard

/-- THE SECOND FORM's CARD OF 'tidewracklaw03.GramLongest'. -/
def gramLongestUptoCard : Claim7 := { stood := { row := gramLongestUptoRow, standIns := [], harness := (true, "da1d41b3f439a2519bbb2c19fb45009a45a12cea40eafb05c260d7f55805a64a"), looks := false }, kinds := [], alts := [], laidByText := true, laidKinds := [.data], laidTests := true, laidLooks := .later }
def GramLongestUptoCardSaid : Prop := Claim7.holds Tryd.pinned (.plain (OpenSpec.upto gramLongestSpec)) gramLongestUptoCard

/-- THE SECOND FORM's CARD OF 'tidewracklaw03.GramApart'. -/
def gramApartUptoCard : Claim7 := { stood := { row := gramApartUptoRow, standIns := [], harness := (true, "da1d41b3f439a2519bbb2c19fb45009a45a12cea40eafb05c260d7f55805a64a"), looks := false }, kinds := [], alts := [], laidByText := true, laidKinds := [.data], laidTests := true, laidLooks := .later }
def GramApartUptoCardSaid : Prop := Claim7.holds Tryd.pinned (.plain (OpenSpec.upto gramApartSpec)) gramApartUptoCard

/-- THE SECOND FORM's CARD OF 'tidewracklaw03.GramTold'. -/
def gramToldUptoCard : Claim7 := { stood := { row := gramToldUptoRow, standIns := [], harness := (true, "da1d41b3f439a2519bbb2c19fb45009a45a12cea40eafb05c260d7f55805a64a"), looks := false }, kinds := [], alts := [], laidByText := true, laidKinds := [.data], laidTests := true, laidLooks := .later }
def GramToldUptoCardSaid : Prop := Claim7.holds Tryd.pinned (.plain (OpenSpec.upto gramToldSpec)) gramToldUptoCard
end Rows
end Go.Proofs.YticilepdpobheaaDoor
