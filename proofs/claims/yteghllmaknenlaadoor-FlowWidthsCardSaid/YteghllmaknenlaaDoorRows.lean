/-
  NARROWER THAN 'FOR EVERY INPUT', by the rows' own cells (each row's printed sentence says how): FlowCounts: laid · FlowCuts: laid · FlowJoins: laid · FlowPlaces: laid · FlowWidths: laid.
  DERIVED. THE GIVEN ROWS OF THIS SEAT. 5 by the template 'for every input the law returns true; each argument reads behind the call as it read before'; 0 by the template 'total and deterministic' (their statements: YteghllmaknenlaaDoorTotals.lean).
  GIVEN WITH THE SEED: the statements are not yours to turn. If you find one false, say at which input.
  Laid BY PROGRAM, IN A SANDBOX (cutbox-rows.mjs): the forced cells as the released guide's own fill.sh prints them over the translation fa3625d914264013… (all of the seat's roots in one cut). By AI agents, Wed Nov 11 2026. No macro, syntax, notation, axiom, sorry.
-/
import Derived.Test.YteghllmaknenlaaDoorChecked
import GoSem.Claim
import GoSem.ClaimJoined
import GoSem.ClaimMapViews
import Derived.JoinedTies
import Derived.KernelRfl
namespace Go.Proofs.YteghllmaknenlaaDoor
/- THE CELL 'sum', in the pinned program and in every row, IS THE sha256 OF THE DUMP (.gsa) THAT YteghllmaknenlaaDoorProg.lean LOADS. Nothing in Lean hashes anything: it is a label: what it is worth is what the hold of that sum in a sandbox is worth. -/
noncomputable def Tryd.pinned : Pinned := { name := "yteghllmaknenlaadoor", sum := "fa3625d914264013d8ad48c5b3341cf1c3fa0556ad384b3319113804ead507a6", checked := Tryd.checked }
namespace Rows
def none {H : Type} : Left H := { results := [], args := [] }

/- WHAT THE LISTED PACKAGE-LEVEL VARIABLES READ AS WHEN THE CALL BEGINS. Each datum BY PROGRAM (the guide's laid-datum.mjs) off the statement by which the dump's own 'gosem.cut.vars' lays the variable. In a bare row this is a premise. The card (YteghllmaknenlaaDoorCards.lean) ties it to the program's text. -/
def laid_tidewrack_wide_twos {H : Type} : DataW H := .agg [.agg [.lit (.int .i32 4352), .lit (.int .i32 4447)], .agg [.lit (.int .i32 11904), .lit (.int .i32 12350)], .agg [.lit (.int .i32 12353), .lit (.int .i32 13311)], .agg [.lit (.int .i32 13312), .lit (.int .i32 19903)], .agg [.lit (.int .i32 19968), .lit (.int .i32 40959)], .agg [.lit (.int .i32 40960), .lit (.int .i32 42191)], .agg [.lit (.int .i32 44032), .lit (.int .i32 55203)], .agg [.lit (.int .i32 63744), .lit (.int .i32 64255)], .agg [.lit (.int .i32 65072), .lit (.int .i32 65135)], .agg [.lit (.int .i32 65280), .lit (.int .i32 65376)], .agg [.lit (.int .i32 65504), .lit (.int .i32 65510)], .agg [.lit (.int .i32 127744), .lit (.int .i32 128591)], .agg [.lit (.int .i32 129280), .lit (.int .i32 129535)], .agg [.lit (.int .i32 131072), .lit (.int .i32 262141)]]
def laid_tidewrack_wide_nones {H : Type} : DataW H := .agg [.agg [.lit (.int .i32 (-2147483648)), .lit (.int .i32 31)], .agg [.lit (.int .i32 127), .lit (.int .i32 159)], .agg [.lit (.int .i32 768), .lit (.int .i32 879)], .agg [.lit (.int .i32 6832), .lit (.int .i32 6911)], .agg [.lit (.int .i32 7616), .lit (.int .i32 7679)], .agg [.lit (.int .i32 8203), .lit (.int .i32 8207)], .agg [.lit (.int .i32 8400), .lit (.int .i32 8447)], .agg [.lit (.int .i32 55296), .lit (.int .i32 57343)], .agg [.lit (.int .i32 65024), .lit (.int .i32 65039)], .agg [.lit (.int .i32 65056), .lit (.int .i32 65071)], .agg [.lit (.int .i32 65279), .lit (.int .i32 65279)], .agg [.lit (.int .i32 917760), .lit (.int .i32 917999)], .agg [.lit (.int .i32 1114112), .lit (.int .i32 2147483647)]]

/-- 'tidewracklaw15.FlowCounts': WHATEVER THE INPUT: true; the input reads as it did. -/
def flowCountsSpec : ChangeSpec := { name := "flowCounts", fn := fun _ => fun
  | [d1, d2] => { results := [.lit (.bool true)], args := [d1, d2] }
  | _ => none }
def flowCountsRow : OpenClaim := { program := "yteghllmaknenlaadoor", sum := "fa3625d914264013d8ad48c5b3341cf1c3fa0556ad384b3319113804ead507a6", func := "tidewrack/tidewracklaw15.FlowCounts", spec := "flowCounts", unfollowed := true, recurses := true, named := ["tidewrack/wide.nones", "tidewrack/wide.twos"], apart := false, laid := [("tidewrack/wide.twos", laid_tidewrack_wide_twos), ("tidewrack/wide.nones", laid_tidewrack_wide_nones)] }
def FlowCountsSaid : Prop := flowCountsRow.holds Tryd.pinned (OpenSpec.ofChange flowCountsSpec)

/-- ITS FALSE NEIGHBOUR: 'it returns false'. Refute it at one input. -/
def flowCountsWrong : ChangeSpec := { name := "flowCounts", fn := fun _ => fun
  | [d1, d2] => { results := [.lit (.bool false)], args := [d1, d2] }
  | _ => none }
def FlowCountsWrongFalsely : Prop := flowCountsRow.holds Tryd.pinned (OpenSpec.ofChange flowCountsWrong)

/-- 'tidewracklaw15.FlowCuts': WHATEVER THE INPUT: true; the input reads as it did. -/
def flowCutsSpec : ChangeSpec := { name := "flowCuts", fn := fun _ => fun
  | [d1, d2, d3] => { results := [.lit (.bool true)], args := [d1, d2, d3] }
  | _ => none }
def flowCutsRow : OpenClaim := { program := "yteghllmaknenlaadoor", sum := "fa3625d914264013d8ad48c5b3341cf1c3fa0556ad384b3319113804ead507a6", func := "tidewrack/tidewracklaw15.FlowCuts", spec := "flowCuts", unfollowed := true, recurses := true, named := ["tidewrack/wide.nones", "tidewrack/wide.twos"], apart := false, laid := [("tidewrack/wide.twos", laid_tidewrack_wide_twos), ("tidewrack/wide.nones", laid_tidewrack_wide_nones)] }
def FlowCutsSaid : Prop := flowCutsRow.holds Tryd.pinned (OpenSpec.ofChange flowCutsSpec)

/-- ITS FALSE NEIGHBOUR: 'it returns false'. Refute it at one input. -/
def flowCutsWrong : ChangeSpec := { name := "flowCuts", fn := fun _ => fun
  | [d1, d2, d3] => { results := [.lit (.bool false)], args := [d1, d2, d3] }
  | _ => none }
def FlowCutsWrongFalsely : Prop := flowCutsRow.holds Tryd.pinned (OpenSpec.ofChange flowCutsWrong)

/-- 'tidewracklaw15.FlowJoins': WHATEVER THE INPUT: true; the input reads as it did. -/
def flowJoinsSpec : ChangeSpec := { name := "flowJoins", fn := fun _ => fun
  | [d1, d2] => { results := [.lit (.bool true)], args := [d1, d2] }
  | _ => none }
def flowJoinsRow : OpenClaim := { program := "yteghllmaknenlaadoor", sum := "fa3625d914264013d8ad48c5b3341cf1c3fa0556ad384b3319113804ead507a6", func := "tidewrack/tidewracklaw15.FlowJoins", spec := "flowJoins", unfollowed := true, recurses := true, named := ["tidewrack/wide.nones", "tidewrack/wide.twos"], apart := false, laid := [("tidewrack/wide.twos", laid_tidewrack_wide_twos), ("tidewrack/wide.nones", laid_tidewrack_wide_nones)] }
def FlowJoinsSaid : Prop := flowJoinsRow.holds Tryd.pinned (OpenSpec.ofChange flowJoinsSpec)

/-- ITS FALSE NEIGHBOUR: 'it returns false'. Refute it at one input. -/
def flowJoinsWrong : ChangeSpec := { name := "flowJoins", fn := fun _ => fun
  | [d1, d2] => { results := [.lit (.bool false)], args := [d1, d2] }
  | _ => none }
def FlowJoinsWrongFalsely : Prop := flowJoinsRow.holds Tryd.pinned (OpenSpec.ofChange flowJoinsWrong)

/-- 'tidewracklaw15.FlowPlaces': WHATEVER THE INPUT: true; the input reads as it did. -/
def flowPlacesSpec : ChangeSpec := { name := "flowPlaces", fn := fun _ => fun
  | [d1, d2] => { results := [.lit (.bool true)], args := [d1, d2] }
  | _ => none }
def flowPlacesRow : OpenClaim := { program := "yteghllmaknenlaadoor", sum := "fa3625d914264013d8ad48c5b3341cf1c3fa0556ad384b3319113804ead507a6", func := "tidewrack/tidewracklaw15.FlowPlaces", spec := "flowPlaces", unfollowed := true, recurses := true, named := ["tidewrack/wide.nones", "tidewrack/wide.twos"], apart := false, laid := [("tidewrack/wide.twos", laid_tidewrack_wide_twos), ("tidewrack/wide.nones", laid_tidewrack_wide_nones)] }
def FlowPlacesSaid : Prop := flowPlacesRow.holds Tryd.pinned (OpenSpec.ofChange flowPlacesSpec)

/-- ITS FALSE NEIGHBOUR: 'it returns false'. Refute it at one input. -/
def flowPlacesWrong : ChangeSpec := { name := "flowPlaces", fn := fun _ => fun
  | [d1, d2] => { results := [.lit (.bool false)], args := [d1, d2] }
  | _ => none }
def FlowPlacesWrongFalsely : Prop := flowPlacesRow.holds Tryd.pinned (OpenSpec.ofChange flowPlacesWrong)

/-- 'tidewracklaw15.FlowWidths': WHATEVER THE INPUT: true; the input reads as it did. -/
def flowWidthsSpec : ChangeSpec := { name := "flowWidths", fn := fun _ => fun
  | [d1, d2, d3] => { results := [.lit (.bool true)], args := [d1, d2, d3] }
  | _ => none }
def flowWidthsRow : OpenClaim := { program := "yteghllmaknenlaadoor", sum := "fa3625d914264013d8ad48c5b3341cf1c3fa0556ad384b3319113804ead507a6", func := "tidewrack/tidewracklaw15.FlowWidths", spec := "flowWidths", unfollowed := true, recurses := true, named := ["tidewrack/wide.nones", "tidewrack/wide.twos"], apart := false, laid := [("tidewrack/wide.twos", laid_tidewrack_wide_twos), ("tidewrack/wide.nones", laid_tidewrack_wide_nones)] }
def FlowWidthsSaid : Prop := flowWidthsRow.holds Tryd.pinned (OpenSpec.ofChange flowWidthsSpec)

/-- ITS FALSE NEIGHBOUR: 'it returns false'. Refute it at one input. -/
def flowWidthsWrong : ChangeSpec := { name := "flowWidths", fn := fun _ => fun
  | [d1, d2, d3] => { results := [.lit (.bool false)], args := [d1, d2, d3] }
  | _ => none }
def FlowWidthsWrongFalsely : Prop := flowWidthsRow.holds Tryd.pinned (OpenSpec.ofChange flowWidthsWrong)

/- THE SECOND FORM. 'bulk': how many values and letters a reading holds, each counted each time it is reached (what is shared counts as often as it is met; a slice's spare places count too). A statement '..UptoSaid' is the law's where the arguments, and the package variables that the reading takes, are together of bulk at most 1048576: NARROWER than '..Said'. Prove '..Said' where nothing that the law and all that it calls make is longer than what came in: it says more and counts as full. Else prove '..UptoSaid'. A law counts once. -/
mutual
def uptoBulk {H : Type} : DataW H → Nat
  | .lit (.string bytes) => bytes.length + 1
  | .lit _ => 1
  | .nil => 1
  | .ptr d => uptoBulk d + 1
  | .slice elems spare => uptoBulkAll elems + uptoBulkAll spare + 1
  | .agg parts => uptoBulkAll parts + 1
  | .iface _ d => uptoBulk d + 1
  | .map entries => uptoBulkEntries entries + 1
  | .held _ => 1
def uptoBulkAll {H : Type} : List (DataW H) → Nat
  | [] => 0
  | d :: r => uptoBulk d + uptoBulkAll r
def uptoBulkEntries {H : Type} : List (Lit × DataW H) → Nat
  | [] => 0
  | x :: r => uptoBulkEntry x + uptoBulkEntries r
def uptoBulkEntry {H : Type} : Lit × DataW H → Nat
  | (.string bytes, d) => bytes.length + uptoBulk d + 1
  | (_, d) => uptoBulk d + 1
 end
def uptoSmall : (H : Type) → List (DataW H) → Bool := fun _ ds => decide (uptoBulkAll ds ≤ 1048576)
def OpenSpec.upto (s : _root_.Go.ChangeSpec) : _root_.Go.OpenSpec := { _root_.Go.OpenSpec.ofChange s with cond := some uptoSmall }

/-- 'tidewracklaw15.FlowCounts', WHERE WHAT IT READS IS OF BULK AT MOST 1048576: true; the input reads as it did. -/
def flowCountsUptoRow : OpenClaim := { program := "yteghllmaknenlaadoor", sum := "fa3625d914264013d8ad48c5b3341cf1c3fa0556ad384b3319113804ead507a6", func := "tidewrack/tidewracklaw15.FlowCounts", spec := "flowCounts", unfollowed := true, recurses := true, named := ["tidewrack/wide.nones", "tidewrack/wide.twos"], apart := false, laid := [("tidewrack/wide.twos", laid_tidewrack_wide_twos), ("tidewrack/wide.nones", laid_tidewrack_wide_nones)], narrowed := true }
def FlowCountsUptoSaid : Prop := flowCountsUptoRow.holds Tryd.pinned (OpenSpec.upto flowCountsSpec)

/-- 'tidewracklaw15.FlowCuts', WHERE WHAT IT READS IS OF BULK AT MOST 1048576: true; the input reads as it did. -/
def flowCutsUptoRow : OpenClaim := { program := "yteghllmaknenlaadoor", sum := "fa3625d914264013d8ad48c5b3341cf1c3fa0556ad384b3319113804ead507a6", func := "tidewrack/tidewracklaw15.FlowCuts", spec := "flowCuts", unfollowed := true, recurses := true, named := ["tidewrack/wide.nones", "tidewrack/wide.twos"], apart := false, laid := [("tidewrack/wide.twos", laid_tidewrack_wide_twos), ("tidewrack/wide.nones", laid_tidewrack_wide_nones)], narrowed := true }
def FlowCutsUptoSaid : Prop := flowCutsUptoRow.holds Tryd.pinned (OpenSpec.upto flowCutsSpec)

/-- 'tidewracklaw15.FlowJoins', WHERE WHAT IT READS IS OF BULK AT MOST 1048576: true; the input reads as it did. -/
def flowJoinsUptoRow : OpenClaim := { program := "yteghllmaknenlaadoor", sum := "fa3625d914264013d8ad48c5b3341cf1c3fa0556ad384b3319113804ead507a6", func := "tidewrack/tidewracklaw15.FlowJoins", spec := "flowJoins", unfollowed := true, recurses := true, named := ["tidewrack/wide.nones", "tidewrack/wide.twos"], apart := false, laid := [("tidewrack/wide.twos", laid_tidewrack_wide_twos), ("tidewrack/wide.nones", laid_tidewrack_wide_nones)], narrowed := true }
def FlowJoinsUptoSaid : Prop := flowJoinsUptoRow.holds Tryd.pinned (OpenSpec.upto flowJoinsSpec)

/-- 'tidewracklaw15.FlowPlaces', WHERE WHAT IT READS IS OF BULK AT MOST 1048576: true; the input reads as it did. -/
def flowPlacesUptoRow : OpenClaim := { program := "yteghllmaknenlaadoor", sum := "fa3625d914264013d8ad48c5b3341cf1c3fa0556ad384b3319113804ead507a6", func := "tidewrack/tidewracklaw15.FlowPlaces", spec := "flowPlaces", unfollowed := true, recurses := true, named := ["tidewrack/wide.nones", "tidewrack/wide.twos"], apart := false, laid := [("tidewrack/wide.twos", laid_tidewrack_wide_twos), ("tidewrack/wide.nones", laid_tidewrack_wide_nones)], narrowed := true }
def FlowPlacesUptoSaid : Prop := flowPlacesUptoRow.holds Tryd.pinned (OpenSpec.upto flowPlacesSpec)

/-- 'tidewracklaw15.FlowWidths', WHERE WHAT IT READS IS OF BULK AT MOST 1048576: true; the input reads as it did. -/
def flowWidthsUptoRow : OpenClaim := { program := "yteghllmaknenlaadoor", sum := "fa3625d914264013d8ad48c5b3341cf1c3fa0556ad384b3319113804ead507a6", func := "tidewrack/tidewracklaw15.FlowWidths", spec := "flowWidths", unfollowed := true, recurses := true, named := ["tidewrack/wide.nones", "tidewrack/wide.twos"], apart := false, laid := [("tidewrack/wide.twos", laid_tidewrack_wide_twos), ("tidewrack/wide.nones", laid_tidewrack_wide_nones)], narrowed := true }
def FlowWidthsUptoSaid : Prop := flowWidthsUptoRow.holds Tryd.pinned (OpenSpec.upto flowWidthsSpec)

end Rows
end Go.Proofs.YteghllmaknenlaaDoor
