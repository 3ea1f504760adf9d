/-
  DERIVED. GIVEN WITH THE SEED: THE CARDS: each row of YthddmlhmejnhlaaDoorRows.lean that lists a variable, with what it lists TIED to the program's text (the seventh form; the later family's looks); each row that meets fmt, with fmt's text TOLD by the authors' own Lean function (tested against real Go, not proved from fmt's source: count such statements apart). THE CARD IS WHAT COUNTS. Prove the row's statement (the work); the ties are given (YthddmlhmejnhlaaDoorTie.lean); close each card by the builder's one call (the guide's Derived/Test/ToyasCard.lean, 'card_holds'). Laid BY PROGRAM, IN A SANDBOX (cutbox-door.mjs). By AI agents, Wed Nov 11 2026. No macro, syntax, notation, axiom, sorry.
-/
import Derived.Test.YthddmlhmejnhlaaDoorRows
import GoSem.ClaimSeven
namespace Go.Proofs.YthddmlhmejnhlaaDoor
namespace Rows

/-- THE TIED CARD OF 'tidewracklaw07.SeqReads'. -/
def seqReadsCard : Claim7 := { stood := { row := seqReadsRow, standIns := [], harness := (true, "fab387ed386b4c34fb42c874ff8cacdb15ba96304e4b99d73d3137002f8bace7"), looks := false }, kinds := [], alts := [], laidByText := true, laidKinds := [.data], laidTests := true, laidLooks := .later }
def SeqReadsCardSaid : Prop := Claim7.holds Tryd.pinned (.plain (OpenSpec.ofChange seqReadsSpec)) seqReadsCard

/-- THE TIED CARD OF 'tidewracklaw07.SeqGround'. -/
def seqGroundCard : Claim7 := { stood := { row := seqGroundRow, standIns := [], harness := (true, "fab387ed386b4c34fb42c874ff8cacdb15ba96304e4b99d73d3137002f8bace7"), looks := false }, kinds := [], alts := [], laidByText := true, laidKinds := [.data], laidTests := true, laidLooks := .later }
def SeqGroundCardSaid : Prop := Claim7.holds Tryd.pinned (.plain (OpenSpec.ofChange seqGroundSpec)) seqGroundCard

/-- THE TIED CARD OF 'tidewracklaw07.SeqAnew'. -/
def seqAnewCard : Claim7 := { stood := { row := seqAnewRow, standIns := [], harness := (true, "fab387ed386b4c34fb42c874ff8cacdb15ba96304e4b99d73d3137002f8bace7"), looks := false }, kinds := [], alts := [], laidByText := true, laidKinds := [.data], laidTests := true, laidLooks := .later }
def SeqAnewCardSaid : Prop := Claim7.holds Tryd.pinned (.plain (OpenSpec.ofChange seqAnewSpec)) seqAnewCard

/-- THE TIED CARD OF 'tidewracklaw07.SeqBounds'. -/
def seqBoundsCard : Claim7 := { stood := { row := seqBoundsRow, standIns := [], harness := (true, "fab387ed386b4c34fb42c874ff8cacdb15ba96304e4b99d73d3137002f8bace7"), looks := false }, kinds := [], alts := [], laidByText := true, laidKinds := [.data], laidTests := true, laidLooks := .later }
def SeqBoundsCardSaid : Prop := Claim7.holds Tryd.pinned (.plain (OpenSpec.ofChange seqBoundsSpec)) seqBoundsCard

/-- THE TIED CARD OF 'tidewracklaw07.SeqParts'. -/
def seqPartsCard : Claim7 := { stood := { row := seqPartsRow, standIns := [], harness := (true, "fab387ed386b4c34fb42c874ff8cacdb15ba96304e4b99d73d3137002f8bace7"), looks := false }, kinds := [], alts := [], laidByText := true, laidKinds := [.data], laidTests := true, laidLooks := .later }
def SeqPartsCardSaid : Prop := Claim7.holds Tryd.pinned (.plain (OpenSpec.ofChange seqPartsSpec)) seqPartsCard

/-- THE TIED CARD OF 'tidewracklaw07.SeqPrints'. -/
def seqPrintsCard : Claim7 := { stood := { row := seqPrintsRow, standIns := [], harness := (true, "fab387ed386b4c34fb42c874ff8cacdb15ba96304e4b99d73d3137002f8bace7"), looks := false }, kinds := [], alts := [], laidByText := true, laidKinds := [.data], laidTests := true, laidLooks := .later }
def SeqPrintsCardSaid : Prop := Claim7.holds Tryd.pinned (.plain (OpenSpec.ofChange seqPrintsSpec)) seqPrintsCard

/-- THE SECOND FORM's CARD OF 'tidewracklaw07.SeqReads'. -/
def seqReadsUptoCard : Claim7 := { stood := { row := seqReadsUptoRow, standIns := [], harness := (true, "fab387ed386b4c34fb42c874ff8cacdb15ba96304e4b99d73d3137002f8bace7"), looks := false }, kinds := [], alts := [], laidByText := true, laidKinds := [.data], laidTests := true, laidLooks := .later }
def SeqReadsUptoCardSaid : Prop := Claim7.holds Tryd.pinned (.plain (OpenSpec.upto seqReadsSpec)) seqReadsUptoCard

/-- THE SECOND FORM's CARD OF 'tidewracklaw07.SeqGround'. -/
def seqGroundUptoCard : Claim7 := { stood := { row := seqGroundUptoRow, standIns := [], harness := (true, "fab387ed386b4c34fb42c874ff8cacdb15ba96304e4b99d73d3137002f8bace7"), looks := false }, kinds := [], alts := [], laidByText := true, laidKinds := [.data], laidTests := true, laidLooks := .later }
def SeqGroundUptoCardSaid : Prop := Claim7.holds Tryd.pinned (.plain (OpenSpec.upto seqGroundSpec)) seqGroundUptoCard

/-- THE SECOND FORM's CARD OF 'tidewracklaw07.SeqAnew'. -/
def seqAnewUptoCard : Claim7 := { stood := { row := seqAnewUptoRow, standIns := [], harness := (true, "fab387ed386b4c34fb42c874ff8cacdb15ba96304e4b99d73d3137002f8bace7"), looks := false }, kinds := [], alts := [], laidByText := true, laidKinds := [.data], laidTests := true, laidLooks := .later }
def SeqAnewUptoCardSaid : Prop := Claim7.holds Tryd.pinned (.plain (OpenSpec.upto seqAnewSpec)) seqAnewUptoCard

/-- THE SECOND FORM's CARD OF 'tidewracklaw07.SeqBounds'. -/
def seqBoundsUptoCard : Claim7 := { stood := { row := seqBoundsUptoRow, standIns := [], harness := (true, "fab387ed386b4c34fb42c874ff8cacdb15ba96304e4b99d73d3137002f8bace7"), looks := false }, kinds := [], alts := [], laidByText := true, laidKinds := [.data], laidTests := true, laidLooks := .later }
def SeqBoundsUptoCardSaid : Prop := Claim7.holds Tryd.pinned (.plain (OpenSpec.upto seqBoundsSpec)) seqBoundsUptoCard

/-- THE SECOND FORM's CARD OF 'tidewracklaw07.SeqParts'. -/
def seqPartsUptoCard : Claim7 := { stood := { row := seqPartsUptoRow, standIns := [], harness := (true, "fab387ed386b4c34fb42c874ff8cacdb15ba96304e4b99d73d3137002f8bace7"), looks := false }, kinds := [], alts := [], laidByText := true, laidKinds := [.data], laidTests := true, laidLooks := .later }
def SeqPartsUptoCardSaid : Prop := Claim7.holds Tryd.pinned (.plain (OpenSpec.upto seqPartsSpec)) seqPartsUptoCard

/-- THE SECOND FORM's CARD OF 'tidewracklaw07.SeqPrints'. -/
def seqPrintsUptoCard : Claim7 := { stood := { row := seqPrintsUptoRow, standIns := [], harness := (true, "fab387ed386b4c34fb42c874ff8cacdb15ba96304e4b99d73d3137002f8bace7"), looks := false }, kinds := [], alts := [], laidByText := true, laidKinds := [.data], laidTests := true, laidLooks := .later }
def SeqPrintsUptoCardSaid : Prop := Claim7.holds Tryd.pinned (.plain (OpenSpec.upto seqPrintsSpec)) seqPrintsUptoCard
end Rows
end Go.Proofs.YthddmlhmejnhlaaDoor
