/-
  DERIVED. GIVEN WITH THE SEED: THE CARDS: each row of YtpciioffkjpieaaGreatDoorRows.lean that lists a variable, with what it lists TIED to the program's text (the seventh form; the later family's looks); each row that meets fmt, with fmt's text TOLD by the authors' own Lean function (tested against real Go, not proved from fmt's source: count such statements apart). THE CARD IS WHAT COUNTS. Prove the row's statement (the work); the ties are given (YtpciioffkjpieaaGreatDoorTie.lean); close each card by the builder's one call (the guide's Derived/Test/ToyasCard.lean, 'card_holds'). Laid BY PROGRAM, IN A SANDBOX (cutbox-door.mjs). By AI agents, Wed Nov 11 2026. No macro, syntax, notation, axiom, sorry.
-/
import Derived.Test.YtpciioffkjpieaaGreatDoorRows
import GoSem.ClaimSeven
namespace Go.Proofs.YtpciioffkjpieaaGreatDoor
namespace Rows

/-- THE TIED CARD OF 'tidewracktop.TidewrackLines'. -/
def tidewrackLinesCard : Claim7 := { stood := { row := tidewrackLinesRow, standIns := [], harness := (true, "50be3eda5a7d0bab7c78760bfab3263fc34bb764a05fba5f005afe63b34a346b"), looks := false }, kinds := [], alts := [], laidByText := true, laidKinds := [.data, .data, .widerDeep, .widerDeep], laidTests := true, laidLooks := .later }
def TidewrackLinesCardSaid : Prop := Claim7.holds Tryz.pinned (.plain (OpenSpec.ofChange tidewrackLinesSpec)) tidewrackLinesCard

/-- THE SECOND FORM's CARD OF 'tidewracktop.TidewrackLines'. -/
def tidewrackLinesUptoCard : Claim7 := { stood := { row := tidewrackLinesUptoRow, standIns := [], harness := (true, "50be3eda5a7d0bab7c78760bfab3263fc34bb764a05fba5f005afe63b34a346b"), looks := false }, kinds := [], alts := [], laidByText := true, laidKinds := [.data, .data, .widerDeep, .widerDeep], laidTests := true, laidLooks := .later }
def TidewrackLinesUptoCardSaid : Prop := Claim7.holds Tryz.pinned (.plain (OpenSpec.upto tidewrackLinesSpec)) tidewrackLinesUptoCard
end Rows
end Go.Proofs.YtpciioffkjpieaaGreatDoor
