/-
  DERIVED. GIVEN WITH THE SEED: THE CARDS: each row of YtbmkbpdgmbdoeaaDoorRows.lean that lists a variable, with what it lists TIED to the program's text (the seventh form; the later family's looks); each row that meets fmt, with fmt's text TOLD by the authors' own Lean function (tested against real Go, not proved from fmt's source: count such statements apart). THE CARD IS WHAT COUNTS. Prove the row's statement (the work); the ties are given (YtbmkbpdgmbdoeaaDoorTie.lean); close each card by the builder's one call (the guide's Derived/Test/ToyasCard.lean, 'card_holds'). Laid BY PROGRAM, IN A SANDBOX (cutbox-door.mjs). By AI agents, Wed Nov 11 2026. No macro, syntax, notation, axiom, sorry.
-/
import Derived.Test.YtbmkbpdgmbdoeaaDoorRows
import GoSem.ClaimSeven
namespace Go.Proofs.YtbmkbpdgmbdoeaaDoor
namespace Rows

/-- THE TIED CARD OF 'tidewracklaw06.WideTells'. -/
def wideTellsCard : Claim7 := { stood := { row := wideTellsRow, standIns := [], harness := (true, "b839038e5e738c9c4ad0ea9ef446bb6ca101716dd3fe77cb59278e6b2b0ff7da"), looks := false }, kinds := [], alts := [], laidByText := true, laidKinds := [.widerDeep, .widerDeep], laidTests := true, laidLooks := .later }
def WideTellsCardSaid : Prop := Claim7.holds Tryd.pinned (.plain (OpenSpec.ofChange wideTellsSpec)) wideTellsCard

/-- THE TIED CARD OF 'tidewracklaw06.WideFits'. -/
def wideFitsCard : Claim7 := { stood := { row := wideFitsRow, standIns := [], harness := (true, "b839038e5e738c9c4ad0ea9ef446bb6ca101716dd3fe77cb59278e6b2b0ff7da"), looks := false }, kinds := [], alts := [], laidByText := true, laidKinds := [.widerDeep, .widerDeep], laidTests := true, laidLooks := .later }
def WideFitsCardSaid : Prop := Claim7.holds Tryd.pinned (.plain (OpenSpec.ofChange wideFitsSpec)) wideFitsCard

/-- THE TIED CARD OF 'tidewracklaw06.WideAdds'. -/
def wideAddsCard : Claim7 := { stood := { row := wideAddsRow, standIns := [], harness := (true, "b839038e5e738c9c4ad0ea9ef446bb6ca101716dd3fe77cb59278e6b2b0ff7da"), looks := false }, kinds := [], alts := [], laidByText := true, laidKinds := [.widerDeep, .widerDeep], laidTests := true, laidLooks := .later }
def WideAddsCardSaid : Prop := Claim7.holds Tryd.pinned (.plain (OpenSpec.ofChange wideAddsSpec)) wideAddsCard

/-- THE SECOND FORM's CARD OF 'tidewracklaw06.WideTells'. -/
def wideTellsUptoCard : Claim7 := { stood := { row := wideTellsUptoRow, standIns := [], harness := (true, "b839038e5e738c9c4ad0ea9ef446bb6ca101716dd3fe77cb59278e6b2b0ff7da"), looks := false }, kinds := [], alts := [], laidByText := true, laidKinds := [.widerDeep, .widerDeep], laidTests := true, laidLooks := .later }
def WideTellsUptoCardSaid : Prop := Claim7.holds Tryd.pinned (.plain (OpenSpec.upto wideTellsSpec)) wideTellsUptoCard

/-- THE SECOND FORM's CARD OF 'tidewracklaw06.WideFits'. -/
def wideFitsUptoCard : Claim7 := { stood := { row := wideFitsUptoRow, standIns := [], harness := (true, "b839038e5e738c9c4ad0ea9ef446bb6ca101716dd3fe77cb59278e6b2b0ff7da"), looks := false }, kinds := [], alts := [], laidByText := true, laidKinds := [.widerDeep, .widerDeep], laidTests := true, laidLooks := .later }
def WideFitsUptoCardSaid : Prop := Claim7.holds Tryd.pinned (.plain (OpenSpec.upto wideFitsSpec)) wideFitsUptoCard

/-- THE SECOND FORM's CARD OF 'tidewracklaw06.WideAdds'. -/
def wideAddsUptoCard : Claim7 := { stood := { row := wideAddsUptoRow, standIns := [], harness := (true, "b839038e5e738c9c4ad0ea9ef446bb6ca101716dd3fe77cb59278e6b2b0ff7da"), looks := false }, kinds := [], alts := [], laidByText := true, laidKinds := [.widerDeep, .widerDeep], laidTests := true, laidLooks := .later }
def WideAddsUptoCardSaid : Prop := Claim7.holds Tryd.pinned (.plain (OpenSpec.upto wideAddsSpec)) wideAddsUptoCard
end Rows
end Go.Proofs.YtbmkbpdgmbdoeaaDoor
