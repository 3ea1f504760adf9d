/-
  DERIVED. GIVEN WITH THE SEED: THE CARDS: each row of YtmgkcahjpehckaaDoorRows.lean that lists a variable, with what it lists TIED to the program's text (the seventh form; the later family's looks); each row that meets fmt, with fmt's text TOLD by the authors' own Lean function (tested against real Go, not proved from fmt's source: count such statements apart). THE CARD IS WHAT COUNTS. Prove the row's statement (the work); the ties are given (YtmgkcahjpehckaaDoorTie.lean); close each card by the builder's one call (the guide's Derived/Test/ToyasCard.lean, 'card_holds'). Laid BY PROGRAM, IN A SANDBOX (cutbox-door.mjs). By AI agents, Wed Nov 11 2026. No macro, syntax, notation, axiom, sorry.
-/
import Derived.Test.YtmgkcahjpehckaaDoorRows
import GoSem.ClaimSeven
namespace Go.Proofs.YtmgkcahjpehckaaDoor
namespace Rows

/-- THE TIED CARD OF 'tidewracklaw02.SumThree'. -/
def sumThreeCard : Claim7 := { stood := { row := sumThreeRow, standIns := [], harness := (true, "99b3a063de21a2c6acc9107a63b6b16f54c74dee05a1ab1deabda76661420cd2"), looks := false }, kinds := [], alts := [], laidByText := true, laidKinds := [.data], laidTests := true, laidLooks := .later }
def SumThreeCardSaid : Prop := Claim7.holds Tryd.pinned (.plain (OpenSpec.ofChange sumThreeSpec)) sumThreeCard

/-- THE TIED CARD OF 'tidewracklaw02.SumTells'. -/
def sumTellsCard : Claim7 := { stood := { row := sumTellsRow, standIns := [], harness := (true, "99b3a063de21a2c6acc9107a63b6b16f54c74dee05a1ab1deabda76661420cd2"), looks := false }, kinds := [], alts := [], laidByText := true, laidKinds := [.data], laidTests := true, laidLooks := .later }
def SumTellsCardSaid : Prop := Claim7.holds Tryd.pinned (.plain (OpenSpec.ofChange sumTellsSpec)) sumTellsCard

/-- THE TIED CARD OF 'tidewracklaw02.SumOpens'. -/
def sumOpensCard : Claim7 := { stood := { row := sumOpensRow, standIns := [], harness := (true, "99b3a063de21a2c6acc9107a63b6b16f54c74dee05a1ab1deabda76661420cd2"), looks := false }, kinds := [], alts := [], laidByText := true, laidKinds := [.data], laidTests := true, laidLooks := .later }
def SumOpensCardSaid : Prop := Claim7.holds Tryd.pinned (.plain (OpenSpec.ofChange sumOpensSpec)) sumOpensCard

/-- THE TIED CARD OF 'tidewracklaw02.SumBursts'. -/
def sumBurstsCard : Claim7 := { stood := { row := sumBurstsRow, standIns := [], harness := (true, "99b3a063de21a2c6acc9107a63b6b16f54c74dee05a1ab1deabda76661420cd2"), looks := false }, kinds := [], alts := [], laidByText := true, laidKinds := [.data], laidTests := true, laidLooks := .later }
def SumBurstsCardSaid : Prop := Claim7.holds Tryd.pinned (.plain (OpenSpec.ofChange sumBurstsSpec)) sumBurstsCard

/-- THE SECOND FORM's CARD OF 'tidewracklaw02.SumThree'. -/
def sumThreeUptoCard : Claim7 := { stood := { row := sumThreeUptoRow, standIns := [], harness := (true, "99b3a063de21a2c6acc9107a63b6b16f54c74dee05a1ab1deabda76661420cd2"), looks := false }, kinds := [], alts := [], laidByText := true, laidKinds := [.data], laidTests := true, laidLooks := .later }
def SumThreeUptoCardSaid : Prop := Claim7.holds Tryd.pinned (.plain (OpenSpec.upto sumThreeSpec)) sumThreeUptoCard

/-- THE SECOND FORM's CARD OF 'tidewracklaw02.SumTells'. -/
def sumTellsUptoCard : Claim7 := { stood := { row := sumTellsUptoRow, standIns := [], harness := (true, "99b3a063de21a2c6acc9107a63b6b16f54c74dee05a1ab1deabda76661420cd2"), looks := false }, kinds := [], alts := [], laidByText := true, laidKinds := [.data], laidTests := true, laidLooks := .later }
def SumTellsUptoCardSaid : Prop := Claim7.holds Tryd.pinned (.plain (OpenSpec.upto sumTellsSpec)) sumTellsUptoCard

/-- THE SECOND FORM's CARD OF 'tidewracklaw02.SumOpens'. -/
def sumOpensUptoCard : Claim7 := { stood := { row := sumOpensUptoRow, standIns := [], harness := (true, "99b3a063de21a2c6acc9107a63b6b16f54c74dee05a1ab1deabda76661420cd2"), looks := false }, kinds := [], alts := [], laidByText := true, laidKinds := [.data], laidTests := true, laidLooks := .later }
def SumOpensUptoCardSaid : Prop := Claim7.holds Tryd.pinned (.plain (OpenSpec.upto sumOpensSpec)) sumOpensUptoCard

/-- THE SECOND FORM's CARD OF 'tidewracklaw02.SumBursts'. -/
def sumBurstsUptoCard : Claim7 := { stood := { row := sumBurstsUptoRow, standIns := [], harness := (true, "99b3a063de21a2c6acc9107a63b6b16f54c74dee05a1ab1deabda76661420cd2"), looks := false }, kinds := [], alts := [], laidByText := true, laidKinds := [.data], laidTests := true, laidLooks := .later }
def SumBurstsUptoCardSaid : Prop := Claim7.holds Tryd.pinned (.plain (OpenSpec.upto sumBurstsSpec)) sumBurstsUptoCard
end Rows
end Go.Proofs.YtmgkcahjpehckaaDoor
