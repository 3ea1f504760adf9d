/-
  DERIVED. GIVEN WITH THE SEED: THE CARDS: each row of YtpciioffkjpieaaDoorRows.lean that lists a variable, with what it lists TIED to the program's text (the seventh form; the later family's looks); each row that meets fmt, with fmt's text TOLD by the authors' own Lean function (tested against real Go, not proved from fmt's source: count such statements apart). THE CARD IS WHAT COUNTS. Prove the row's statement (the work); the ties are given (YtpciioffkjpieaaDoorTie.lean); close each card by the builder's one call (the guide's Derived/Test/ToyasCard.lean, 'card_holds'). Laid BY PROGRAM, IN A SANDBOX (cutbox-door.mjs). By AI agents, Wed Nov 11 2026. No macro, syntax, notation, axiom, sorry.
-/
import Derived.Test.YtpciioffkjpieaaDoorRows
import GoSem.ClaimSeven
namespace Go.Proofs.YtpciioffkjpieaaDoor
namespace Rows

/-- THE TIED CARD OF 'tidewracktop.TidewrackColumns'. -/
def tidewrackColumnsCard : Claim7 := { stood := { row := tidewrackColumnsRow, standIns := [], harness := (true, "8829ca3423f0fb9f06545c1dbe7a36f3a087a419846f9814b5ea55767752de92"), looks := false }, kinds := [], alts := [], laidByText := true, laidKinds := [.data, .widerDeep, .widerDeep], laidTests := true, laidLooks := .later }
def TidewrackColumnsCardSaid : Prop := Claim7.holds Tryd.pinned (.plain (OpenSpec.ofChange tidewrackColumnsSpec)) tidewrackColumnsCard

/-- THE TIED CARD OF 'tidewracktop.TidewrackShown'. -/
def tidewrackShownCard : Claim7 := { stood := { row := tidewrackShownRow, standIns := [], harness := (true, "8829ca3423f0fb9f06545c1dbe7a36f3a087a419846f9814b5ea55767752de92"), looks := false }, kinds := [], alts := [], laidByText := true, laidKinds := [.widerDeep, .widerDeep], laidTests := true, laidLooks := .later }
def TidewrackShownCardSaid : Prop := Claim7.holds Tryd.pinned (.plain (OpenSpec.ofChange tidewrackShownSpec)) tidewrackShownCard

/-- THE TIED CARD OF 'tidewracktop.TidewrackPrinted'. -/
def tidewrackPrintedCard : Claim7 := { stood := { row := tidewrackPrintedRow, standIns := [], harness := (true, "8829ca3423f0fb9f06545c1dbe7a36f3a087a419846f9814b5ea55767752de92"), looks := false }, kinds := [], alts := [], laidByText := true, laidKinds := [.data], laidTests := true, laidLooks := .later }
def TidewrackPrintedCardSaid : Prop := Claim7.holds Tryd.pinned (.plain (OpenSpec.ofChange tidewrackPrintedSpec)) tidewrackPrintedCard

/-- THE TIED CARD OF 'tidewracktop.TidewrackHand'. -/
def tidewrackHandCard : Claim7 := { stood := { row := tidewrackHandRow, standIns := [], harness := (true, "8829ca3423f0fb9f06545c1dbe7a36f3a087a419846f9814b5ea55767752de92"), looks := false }, kinds := [], alts := [], laidByText := true, laidKinds := [.widerDeep, .widerDeep], laidTests := true, laidLooks := .later }
def TidewrackHandCardSaid : Prop := Claim7.holds Tryd.pinned (.plain (OpenSpec.ofChange tidewrackHandSpec)) tidewrackHandCard

/-- THE TIED CARD OF 'tidewracktop.TidewrackParts'. -/
def tidewrackPartsCard : Claim7 := { stood := { row := tidewrackPartsRow, standIns := [], harness := (true, "8829ca3423f0fb9f06545c1dbe7a36f3a087a419846f9814b5ea55767752de92"), looks := false }, kinds := [], alts := [], laidByText := true, laidKinds := [.data], laidTests := true, laidLooks := .later }
def TidewrackPartsCardSaid : Prop := Claim7.holds Tryd.pinned (.plain (OpenSpec.ofChange tidewrackPartsSpec)) tidewrackPartsCard

/-- THE SECOND FORM's CARD OF 'tidewracktop.TidewrackColumns'. -/
def tidewrackColumnsUptoCard : Claim7 := { stood := { row := tidewrackColumnsUptoRow, standIns := [], harness := (true, "8829ca3423f0fb9f06545c1dbe7a36f3a087a419846f9814b5ea55767752de92"), looks := false }, kinds := [], alts := [], laidByText := true, laidKinds := [.data, .widerDeep, .widerDeep], laidTests := true, laidLooks := .later }
def TidewrackColumnsUptoCardSaid : Prop := Claim7.holds Tryd.pinned (.plain (OpenSpec.upto tidewrackColumnsSpec)) tidewrackColumnsUptoCard

/-- THE SECOND FORM's CARD OF 'tidewracktop.TidewrackShown'. -/
def tidewrackShownUptoCard : Claim7 := { stood := { row := tidewrackShownUptoRow, standIns := [], harness := (true, "8829ca3423f0fb9f06545c1dbe7a36f3a087a419846f9814b5ea55767752de92"), looks := false }, kinds := [], alts := [], laidByText := true, laidKinds := [.widerDeep, .widerDeep], laidTests := true, laidLooks := .later }
def TidewrackShownUptoCardSaid : Prop := Claim7.holds Tryd.pinned (.plain (OpenSpec.upto tidewrackShownSpec)) tidewrackShownUptoCard

/-- THE SECOND FORM's CARD OF 'tidewracktop.TidewrackPrinted'. -/
def tidewrackPrintedUptoCard : Claim7 := { stood := { row := tidewrackPrintedUptoRow, standIns := [], harness := (true, "8829ca3423f0fb9f06545c1dbe7a36f3a087a419846f9814b5ea55767752de92"), looks := false }, kinds := [], alts := [], laidByText := true, laidKinds := [.data], laidTests := true, laidLooks := .later }
def TidewrackPrintedUptoCardSaid : Prop := Claim7.holds Tryd.pinned (.plain (OpenSpec.upto tidewrackPrintedSpec)) tidewrackPrintedUptoCard

/-- THE SECOND FORM's CARD OF 'tidewracktop.TidewrackHand'. -/
def tidewrackHandUptoCard : Claim7 := { stood := { row := tidewrackHandUptoRow, standIns := [], harness := (true, "8829ca3423f0fb9f06545c1dbe7a36f3a087a419846f9814b5ea55767752de92"), looks := false }, kinds := [], alts := [], laidByText := true, laidKinds := [.widerDeep, .widerDeep], laidTests := true, laidLooks := .later }
def TidewrackHandUptoCardSaid : Prop := Claim7.holds Tryd.pinned (.plain (OpenSpec.upto tidewrackHandSpec)) tidewrackHandUptoCard

/-- THE SECOND FORM's CARD OF 'tidewracktop.TidewrackParts'. -/
def tidewrackPartsUptoCard : Claim7 := { stood := { row := tidewrackPartsUptoRow, standIns := [], harness := (true, "8829ca3423f0fb9f06545c1dbe7a36f3a087a419846f9814b5ea55767752de92"), looks := false }, kinds := [], alts := [], laidByText := true, laidKinds := [.data], laidTests := true, laidLooks := .later }
def TidewrackPartsUptoCardSaid : Prop := Claim7.holds Tryd.pinned (.plain (OpenSpec.upto tidewrackPartsSpec)) tidewrackPartsUptoCard
end Rows
end Go.Proofs.YtpciioffkjpieaaDoor
