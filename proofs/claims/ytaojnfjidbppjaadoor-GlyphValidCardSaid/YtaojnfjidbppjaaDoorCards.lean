/-
  DERIVED. GIVEN WITH THE SEED: THE CARDS: each row of YtaojnfjidbppjaaDoorRows.lean that lists a variable, with what it lists TIED to the program's text (the seventh form; the later family's looks); each row that meets fmt, with fmt's text TOLD by the authors' own Lean function (tested against real Go, not proved from fmt's source: count such statements apart). THE CARD IS WHAT COUNTS. Prove the row's statement (the work); the ties are given (YtaojnfjidbppjaaDoorTie.lean); close each card by the builder's one call (the guide's Derived/Test/ToyasCard.lean, 'card_holds'). Laid BY PROGRAM, IN A SANDBOX (cutbox-door.mjs). By AI agents, Wed Nov 11 2026. No macro, syntax, notation, axiom, sorry.
-/
import Derived.Test.YtaojnfjidbppjaaDoorRows
import GoSem.ClaimSeven
namespace Go.Proofs.YtaojnfjidbppjaaDoor
namespace Rows

/-- THE TIED CARD OF 'tidewracklaw05.GlyphDecodes'. -/
def glyphDecodesCard : Claim7 := { stood := { row := glyphDecodesRow, standIns := [], harness := (true, "817d0b7f2993967de8d6790b74654d5fa303b29688de533c1b18a4f3e440be5d"), looks := false }, kinds := [], alts := [], laidByText := true, laidKinds := [.data], laidTests := true, laidLooks := .later }
def GlyphDecodesCardSaid : Prop := Claim7.holds Tryd.pinned (.plain (OpenSpec.ofChange glyphDecodesSpec)) glyphDecodesCard

/-- THE TIED CARD OF 'tidewracklaw05.GlyphParts'. -/
def glyphPartsCard : Claim7 := { stood := { row := glyphPartsRow, standIns := [], harness := (true, "817d0b7f2993967de8d6790b74654d5fa303b29688de533c1b18a4f3e440be5d"), looks := false }, kinds := [], alts := [], laidByText := true, laidKinds := [.data], laidTests := true, laidLooks := .later }
def GlyphPartsCardSaid : Prop := Claim7.holds Tryd.pinned (.plain (OpenSpec.ofChange glyphPartsSpec)) glyphPartsCard

/-- THE TIED CARD OF 'tidewracklaw05.GlyphBack'. -/
def glyphBackCard : Claim7 := { stood := { row := glyphBackRow, standIns := [], harness := (true, "817d0b7f2993967de8d6790b74654d5fa303b29688de533c1b18a4f3e440be5d"), looks := false }, kinds := [], alts := [], laidByText := true, laidKinds := [.data], laidTests := true, laidLooks := .later }
def GlyphBackCardSaid : Prop := Claim7.holds Tryd.pinned (.plain (OpenSpec.ofChange glyphBackSpec)) glyphBackCard

/-- THE TIED CARD OF 'tidewracklaw05.GlyphHeals'. -/
def glyphHealsCard : Claim7 := { stood := { row := glyphHealsRow, standIns := [], harness := (true, "817d0b7f2993967de8d6790b74654d5fa303b29688de533c1b18a4f3e440be5d"), looks := false }, kinds := [], alts := [], laidByText := true, laidKinds := [.data], laidTests := true, laidLooks := .later }
def GlyphHealsCardSaid : Prop := Claim7.holds Tryd.pinned (.plain (OpenSpec.ofChange glyphHealsSpec)) glyphHealsCard

/-- THE TIED CARD OF 'tidewracklaw05.GlyphValid'. -/
def glyphValidCard : Claim7 := { stood := { row := glyphValidRow, standIns := [], harness := (true, "817d0b7f2993967de8d6790b74654d5fa303b29688de533c1b18a4f3e440be5d"), looks := false }, kinds := [], alts := [], laidByText := true, laidKinds := [.data], laidTests := true, laidLooks := .later }
def GlyphValidCardSaid : Prop := Claim7.holds Tryd.pinned (.plain (OpenSpec.ofChange glyphValidSpec)) glyphValidCard

/-- THE SECOND FORM's CARD OF 'tidewracklaw05.GlyphDecodes'. -/
def glyphDecodesUptoCard : Claim7 := { stood := { row := glyphDecodesUptoRow, standIns := [], harness := (true, "817d0b7f2993967de8d6790b74654d5fa303b29688de533c1b18a4f3e440be5d"), looks := false }, kinds := [], alts := [], laidByText := true, laidKinds := [.data], laidTests := true, laidLooks := .later }
def GlyphDecodesUptoCardSaid : Prop := Claim7.holds Tryd.pinned (.plain (OpenSpec.upto glyphDecodesSpec)) glyphDecodesUptoCard

/-- THE SECOND FORM's CARD OF 'tidewracklaw05.GlyphParts'. -/
def glyphPartsUptoCard : Claim7 := { stood := { row := glyphPartsUptoRow, standIns := [], harness := (true, "817d0b7f2993967de8d6790b74654d5fa303b29688de533c1b18a4f3e440be5d"), looks := false }, kinds := [], alts := [], laidByText := true, laidKinds := [.data], laidTests := true, laidLooks := .later }
def GlyphPartsUptoCardSaid : Prop := Claim7.holds Tryd.pinned (.plain (OpenSpec.upto glyphPartsSpec)) glyphPartsUptoCard

/-- THE SECOND FORM's CARD OF 'tidewracklaw05.GlyphBack'. -/
def glyphBackUptoCard : Claim7 := { stood := { row := glyphBackUptoRow, standIns := [], harness := (true, "817d0b7f2993967de8d6790b74654d5fa303b29688de533c1b18a4f3e440be5d"), looks := false }, kinds := [], alts := [], laidByText := true, laidKinds := [.data], laidTests := true, laidLooks := .later }
def GlyphBackUptoCardSaid : Prop := Claim7.holds Tryd.pinned (.plain (OpenSpec.upto glyphBackSpec)) glyphBackUptoCard

/-- THE SECOND FORM's CARD OF 'tidewracklaw05.GlyphHeals'. -/
def glyphHealsUptoCard : Claim7 := { stood := { row := glyphHealsUptoRow, standIns := [], harness := (true, "817d0b7f2993967de8d6790b74654d5fa303b29688de533c1b18a4f3e440be5d"), looks := false }, kinds := [], alts := [], laidByText := true, laidKinds := [.data], laidTests := true, laidLooks := .later }
def GlyphHealsUptoCardSaid : Prop := Claim7.holds Tryd.pinned (.plain (OpenSpec.upto glyphHealsSpec)) glyphHealsUptoCard

/-- THE SECOND FORM's CARD OF 'tidewracklaw05.GlyphValid'. -/
def glyphValidUptoCard : Claim7 := { stood := { row := glyphValidUptoRow, standIns := [], harness := (true, "817d0b7f2993967de8d6790b74654d5fa303b29688de533c1b18a4f3e440be5d"), looks := false }, kinds := [], alts := [], laidByText := true, laidKinds := [.data], laidTests := true, laidLooks := .later }
def GlyphValidUptoCardSaid : Prop := Claim7.holds Tryd.pinned (.plain (OpenSpec.upto glyphValidSpec)) glyphValidUptoCard
end Rows
end Go.Proofs.YtaojnfjidbppjaaDoor
