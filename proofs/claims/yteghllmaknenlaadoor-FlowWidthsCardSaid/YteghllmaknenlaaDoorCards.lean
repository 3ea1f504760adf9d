/-
  DERIVED. GIVEN WITH THE SEED: THE CARDS: each row of YteghllmaknenlaaDoorRows.lean that lists a variable, with what it lists TIED to the program's text (the seventh form; the later family's looks); each row that meets fmt, with fmt's text TOLD by the authors' own Lean function (tested against real Go, not proved from fmt's source: count such statements apart). THE CARD IS WHAT COUNTS. Prove the row's statement (the work); the ties are given (YteghllmaknenlaaDoorTie.lean); close each card by the builder's one call (the guide's Derived/Test/ToyasCard.lean, 'card_holds'). Laid BY PROGRAM, IN A SANDBOX (cutbox-door.mjs). By AI agents, Wed Nov 11 2026. No macro, syntax, notation, axiom, sorry.
-/
import Derived.Test.YteghllmaknenlaaDoorRows
import GoSem.ClaimSeven
namespace Go.Proofs.YteghllmaknenlaaDoor
namespace Rows

/-- THE TIED CARD OF 'tidewracklaw15.FlowCounts'. -/
def flowCountsCard : Claim7 := { stood := { row := flowCountsRow, standIns := [], harness := (true, "d2646567647129c7dcfde068ec2a1fb252f488245ce4b92a1dece38aef3e72d8"), looks := false }, kinds := [], alts := [], laidByText := true, laidKinds := [.widerDeep, .widerDeep], laidTests := true, laidLooks := .later }
def FlowCountsCardSaid : Prop := Claim7.holds Tryd.pinned (.plain (OpenSpec.ofChange flowCountsSpec)) flowCountsCard

/-- THE TIED CARD OF 'tidewracklaw15.FlowCuts'. -/
def flowCutsCard : Claim7 := { stood := { row := flowCutsRow, standIns := [], harness := (true, "d2646567647129c7dcfde068ec2a1fb252f488245ce4b92a1dece38aef3e72d8"), looks := false }, kinds := [], alts := [], laidByText := true, laidKinds := [.widerDeep, .widerDeep], laidTests := true, laidLooks := .later }
def FlowCutsCardSaid : Prop := Claim7.holds Tryd.pinned (.plain (OpenSpec.ofChange flowCutsSpec)) flowCutsCard

/-- THE TIED CARD OF 'tidewracklaw15.FlowJoins'. -/
def flowJoinsCard : Claim7 := { stood := { row := flowJoinsRow, standIns := [], harness := (true, "d2646567647129c7dcfde068ec2a1fb252f488245ce4b92a1dece38aef3e72d8"), looks := false }, kinds := [], alts := [], laidByText := true, laidKinds := [.widerDeep, .widerDeep], laidTests := true, laidLooks := .later }
def FlowJoinsCardSaid : Prop := Claim7.holds Tryd.pinned (.plain (OpenSpec.ofChange flowJoinsSpec)) flowJoinsCard

/-- THE TIED CARD OF 'tidewracklaw15.FlowPlaces'. -/
def flowPlacesCard : Claim7 := { stood := { row := flowPlacesRow, standIns := [], harness := (true, "d2646567647129c7dcfde068ec2a1fb252f488245ce4b92a1dece38aef3e72d8"), looks := false }, kinds := [], alts := [], laidByText := true, laidKinds := [.widerDeep, .widerDeep], laidTests := true, laidLooks := .later }
def FlowPlacesCardSaid : Prop := Claim7.holds Tryd.pinned (.plain (OpenSpec.ofChange flowPlacesSpec)) flowPlacesCard

/-- THE TIED CARD OF 'tidewracklaw15.FlowWidths'. -/
def flowWidthsCard : Claim7 := { stood := { row := flowWidthsRow, standIns := [], harness := (true, "d2646567647129c7dcfde068ec2a1fb252f488245ce4b92a1dece38aef3e72d8"), looks := false }, kinds := [], alts := [], laidByText := true, laidKinds := [.widerDeep, .widerDeep], laidTests := true, laidLooks := .later }
def FlowWidthsCardSaid : Prop := Claim7.holds Tryd.pinned (.plain (OpenSpec.ofChange flowWidthsSpec)) flowWidthsCard

/-- THE SECOND FORM's CARD OF 'tidewracklaw15.FlowCounts'. -/
def flowCountsUptoCard : Claim7 := { stood := { row := flowCountsUptoRow, standIns := [], harness := (true, "d2646567647129c7dcfde068ec2a1fb252f488245ce4b92a1dece38aef3e72d8"), looks := false }, kinds := [], alts := [], laidByText := true, laidKinds := [.widerDeep, .widerDeep], laidTests := true, laidLooks := .later }
def FlowCountsUptoCardSaid : Prop := Claim7.holds Tryd.pinned (.plain (OpenSpec.upto flowCountsSpec)) flowCountsUptoCard

/-- THE SECOND FORM's CARD OF 'tidewracklaw15.FlowCuts'. -/
def flowCutsUptoCard : Claim7 := { stood := { row := flowCutsUptoRow, standIns := [], harness := (true, "d2646567647129c7dcfde068ec2a1fb252f488245ce4b92a1dece38aef3e72d8"), looks := false }, kinds := [], alts := [], laidByText := true, laidKinds := [.widerDeep, .widerDeep], laidTests := true, laidLooks := .later }
def FlowCutsUptoCardSaid : Prop := Claim7.holds Tryd.pinned (.plain (OpenSpec.upto flowCutsSpec)) flowCutsUptoCard

/-- THE SECOND FORM's CARD OF 'tidewracklaw15.FlowJoins'. -/
def flowJoinsUptoCard : Claim7 := { stood := { row := flowJoinsUptoRow, standIns := [], harness := (true, "d2646567647129c7dcfde068ec2a1fb252f488245ce4b92a1dece38aef3e72d8"), looks := false }, kinds := [], alts := [], laidByText := true, laidKinds := [.widerDeep, .widerDeep], laidTests := true, laidLooks := .later }
def FlowJoinsUptoCardSaid : Prop := Claim7.holds Tryd.pinned (.plain (OpenSpec.upto flowJoinsSpec)) flowJoinsUptoCard

/-- THE SECOND FORM's CARD OF 'tidewracklaw15.FlowPlaces'. -/
def flowPlacesUptoCard : Claim7 := { stood := { row := flowPlacesUptoRow, standIns := [], harness := (true, "d2646567647129c7dcfde068ec2a1fb252f488245ce4b92a1dece38aef3e72d8"), looks := false }, kinds := [], alts := [], laidByText := true, laidKinds := [.widerDeep, .widerDeep], laidTests := true, laidLooks := .later }
def FlowPlacesUptoCardSaid : Prop := Claim7.holds Tryd.pinned (.plain (OpenSpec.upto flowPlacesSpec)) flowPlacesUptoCard

/-- THE SECOND FORM's CARD OF 'tidewracklaw15.FlowWidths'. -/
def flowWidthsUptoCard : Claim7 := { stood := { row := flowWidthsUptoRow, standIns := [], harness := (true, "d2646567647129c7dcfde068ec2a1fb252f488245ce4b92a1dece38aef3e72d8"), looks := false }, kinds := [], alts := [], laidByText := true, laidKinds := [.widerDeep, .widerDeep], laidTests := true, laidLooks := .later }
def FlowWidthsUptoCardSaid : Prop := Claim7.holds Tryd.pinned (.plain (OpenSpec.upto flowWidthsSpec)) flowWidthsUptoCard
end Rows
end Go.Proofs.YteghllmaknenlaaDoor
