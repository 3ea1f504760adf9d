/-
  No cell of these rows narrows 'for every input' (looked for: loops, veiled, ifaces, maps, wideKeys, modest, calm, conditions, laid).
  DERIVED. THE GIVEN ROWS OF THIS SEAT. 5 by the template 'for every input the law returns true; each argument reads behind the call as it read before'; 0 by the template 'total and deterministic' (their statements: YtbdocgjhidalfaaTotals.lean).
  GIVEN WITH THE SEED: the statements are not yours to turn. If you find one false, say at which input.
  Laid BY PROGRAM, IN A SANDBOX (cutbox-rows.mjs): the forced cells as the released guide's own fill.sh prints them over the translation 3a0c8bccde9ab022… (all of the seat's roots in one cut). By AI agents, Wed Nov 11 2026. No macro, syntax, notation, axiom, sorry.
-/
import Derived.Test.YtbdocgjhidalfaaChecked
import GoSem.Claim
import GoSem.ClaimJoined
import GoSem.ClaimMapViews
import Derived.JoinedTies
import Derived.KernelRfl
namespace Go.Proofs.Ytbdocgjhidalfaa
/- THE CELL 'sum', in the pinned program and in every row, IS THE sha256 OF THE DUMP (.gsa) THAT YtbdocgjhidalfaaProg.lean LOADS. Nothing in Lean hashes anything: it is a label: what it is worth is what the hold of that sum in a sandbox is worth. -/
noncomputable def Try.pinned : Pinned := { name := "ytbdocgjhidalfaa", sum := "3a0c8bccde9ab022a547395581677cc891234f0dda5028b6030fe0157d771bae", checked := Try.checked }
namespace Rows
def none {H : Type} : Left H := { results := [], args := [] }

/-- 'tidewracklaw08.StyleSets': WHATEVER THE INPUT: true; the input reads as it did. -/
def styleSetsSpec : ChangeSpec := { name := "styleSets", fn := fun _ => fun
  | [d1, d2] => { results := [.lit (.bool true)], args := [d1, d2] }
  | _ => none }
def styleSetsRow : OpenClaim := { program := "ytbdocgjhidalfaa", sum := "3a0c8bccde9ab022a547395581677cc891234f0dda5028b6030fe0157d771bae", func := "tidewrack/tidewracklaw08.StyleSets", spec := "styleSets", apart := false }
def StyleSetsSaid : Prop := styleSetsRow.holds Try.pinned (OpenSpec.ofChange styleSetsSpec)

/-- ITS FALSE NEIGHBOUR: 'it returns false'. Refute it at one input. -/
def styleSetsWrong : ChangeSpec := { name := "styleSets", fn := fun _ => fun
  | [d1, d2] => { results := [.lit (.bool false)], args := [d1, d2] }
  | _ => none }
def StyleSetsWrongFalsely : Prop := styleSetsRow.holds Try.pinned (OpenSpec.ofChange styleSetsWrong)

/-- 'tidewracklaw08.StyleTwice': WHATEVER THE INPUT: true; the input reads as it did. -/
def styleTwiceSpec : ChangeSpec := { name := "styleTwice", fn := fun _ => fun
  | [d1, d2, d3] => { results := [.lit (.bool true)], args := [d1, d2, d3] }
  | _ => none }
def styleTwiceRow : OpenClaim := { program := "ytbdocgjhidalfaa", sum := "3a0c8bccde9ab022a547395581677cc891234f0dda5028b6030fe0157d771bae", func := "tidewrack/tidewracklaw08.StyleTwice", spec := "styleTwice", apart := false }
def StyleTwiceSaid : Prop := styleTwiceRow.holds Try.pinned (OpenSpec.ofChange styleTwiceSpec)

/-- ITS FALSE NEIGHBOUR: 'it returns false'. Refute it at one input. -/
def styleTwiceWrong : ChangeSpec := { name := "styleTwice", fn := fun _ => fun
  | [d1, d2, d3] => { results := [.lit (.bool false)], args := [d1, d2, d3] }
  | _ => none }
def StyleTwiceWrongFalsely : Prop := styleTwiceRow.holds Try.pinned (OpenSpec.ofChange styleTwiceWrong)

/-- 'tidewracklaw08.StyleNums': WHATEVER THE INPUT: true; the input reads as it did. -/
def styleNumsSpec : ChangeSpec := { name := "styleNums", fn := fun _ => fun
  | [d1, d2] => { results := [.lit (.bool true)], args := [d1, d2] }
  | _ => none }
def styleNumsRow : OpenClaim := { program := "ytbdocgjhidalfaa", sum := "3a0c8bccde9ab022a547395581677cc891234f0dda5028b6030fe0157d771bae", func := "tidewrack/tidewracklaw08.StyleNums", spec := "styleNums", apart := false }
def StyleNumsSaid : Prop := styleNumsRow.holds Try.pinned (OpenSpec.ofChange styleNumsSpec)

/-- ITS FALSE NEIGHBOUR: 'it returns false'. Refute it at one input. -/
def styleNumsWrong : ChangeSpec := { name := "styleNums", fn := fun _ => fun
  | [d1, d2] => { results := [.lit (.bool false)], args := [d1, d2] }
  | _ => none }
def StyleNumsWrongFalsely : Prop := styleNumsRow.holds Try.pinned (OpenSpec.ofChange styleNumsWrong)

/-- 'tidewracklaw08.StyleMay': WHATEVER THE INPUT: true; the input reads as it did. -/
def styleMaySpec : ChangeSpec := { name := "styleMay", fn := fun _ => fun
  | [d1, d2] => { results := [.lit (.bool true)], args := [d1, d2] }
  | _ => none }
def styleMayRow : OpenClaim := { program := "ytbdocgjhidalfaa", sum := "3a0c8bccde9ab022a547395581677cc891234f0dda5028b6030fe0157d771bae", func := "tidewrack/tidewracklaw08.StyleMay", spec := "styleMay", apart := false }
def StyleMaySaid : Prop := styleMayRow.holds Try.pinned (OpenSpec.ofChange styleMaySpec)

/-- ITS FALSE NEIGHBOUR: 'it returns false'. Refute it at one input. -/
def styleMayWrong : ChangeSpec := { name := "styleMay", fn := fun _ => fun
  | [d1, d2] => { results := [.lit (.bool false)], args := [d1, d2] }
  | _ => none }
def StyleMayWrongFalsely : Prop := styleMayRow.holds Try.pinned (OpenSpec.ofChange styleMayWrong)

/-- 'tidewracklaw08.StyleOrders': WHATEVER THE INPUT: true; the input reads as it did. -/
def styleOrdersSpec : ChangeSpec := { name := "styleOrders", fn := fun _ => fun
  | [d1, d2] => { results := [.lit (.bool true)], args := [d1, d2] }
  | _ => none }
def styleOrdersRow : OpenClaim := { program := "ytbdocgjhidalfaa", sum := "3a0c8bccde9ab022a547395581677cc891234f0dda5028b6030fe0157d771bae", func := "tidewrack/tidewracklaw08.StyleOrders", spec := "styleOrders", apart := false }
def StyleOrdersSaid : Prop := styleOrdersRow.holds Try.pinned (OpenSpec.ofChange styleOrdersSpec)

/-- ITS FALSE NEIGHBOUR: 'it returns false'. Refute it at one input. -/
def styleOrdersWrong : ChangeSpec := { name := "styleOrders", fn := fun _ => fun
  | [d1, d2] => { results := [.lit (.bool false)], args := [d1, d2] }
  | _ => none }
def StyleOrdersWrongFalsely : Prop := styleOrdersRow.holds Try.pinned (OpenSpec.ofChange styleOrdersWrong)

/- THE SECOND FORM. 'bulk': how many values and letters a reading holds, each counted each time it is reached (what is shared counts as often as it is met; a slice's spare places count too). A statement '..UptoSaid' is the law's where the arguments, and the package variables that the reading takes, are together of bulk at most 1048576: NARROWER than '..Said'. Prove '..Said' where nothing that the law and all that it calls make is longer than what came in: it says more and counts as full. Else prove '..UptoSaid'. A law counts once. -/
mutual
def uptoBulk {H : Type} : DataW H → Nat
  | .lit (.string bytes) => bytes.length + 1
  | .lit _ => 1
  | .nil => 1
  | .ptr d => uptoBulk d + 1
  | .slice elems spare => uptoBulkAll elems + uptoBulkAll spare + 1
  | .agg parts => uptoBulkAll parts + 1
  | .iface _ d => uptoBulk d + 1
  | .map entries => uptoBulkEntries entries + 1
  | .held _ => 1
def uptoBulkAll {H : Type} : List (DataW H) → Nat
  | [] => 0
  | d :: r => uptoBulk d + uptoBulkAll r
def uptoBulkEntries {H : Type} : List (Lit × DataW H) → Nat
  | [] => 0
  | x :: r => uptoBulkEntry x + uptoBulkEntries r
def uptoBulkEntry {H : Type} : Lit × DataW H → Nat
  | (.string bytes, d) => bytes.length + uptoBulk d + 1
  | (_, d) => uptoBulk d + 1
 end
def uptoSmall : (H : Type) → List (DataW H) → Bool := fun _ ds => decide (uptoBulkAll ds ≤ 1048576)
def OpenSpec.upto (s : _root_.Go.ChangeSpec) : _root_.Go.OpenSpec := { _root_.Go.OpenSpec.ofChange s with cond := some uptoSmall }

/-- 'tidewracklaw08.StyleSets', WHERE WHAT IT READS IS OF BULK AT MOST 1048576: true; the input reads as it did. -/
def styleSetsUptoRow : OpenClaim := { program := "ytbdocgjhidalfaa", sum := "3a0c8bccde9ab022a547395581677cc891234f0dda5028b6030fe0157d771bae", func := "tidewrack/tidewracklaw08.StyleSets", spec := "styleSets", apart := false, narrowed := true }
def StyleSetsUptoSaid : Prop := styleSetsUptoRow.holds Try.pinned (OpenSpec.upto styleSetsSpec)

/-- 'tidewracklaw08.StyleTwice', WHERE WHAT IT READS IS OF BULK AT MOST 1048576: true; the input reads as it did. -/
def styleTwiceUptoRow : OpenClaim := { program := "ytbdocgjhidalfaa", sum := "3a0c8bccde9ab022a547395581677cc891234f0dda5028b6030fe0157d771bae", func := "tidewrack/tidewracklaw08.StyleTwice", spec := "styleTwice", apart := false, narrowed := true }
def StyleTwiceUptoSaid : Prop := styleTwiceUptoRow.holds Try.pinned (OpenSpec.upto styleTwiceSpec)

/-- 'tidewracklaw08.StyleNums', WHERE WHAT IT READS IS OF BULK AT MOST 1048576: true; the input reads as it did. -/
def styleNumsUptoRow : OpenClaim := { program := "ytbdocgjhidalfaa", sum := "3a0c8bccde9ab022a547395581677cc891234f0dda5028b6030fe0157d771bae", func := "tidewrack/tidewracklaw08.StyleNums", spec := "styleNums", apart := false, narrowed := true }
def StyleNumsUptoSaid : Prop := styleNumsUptoRow.holds Try.pinned (OpenSpec.upto styleNumsSpec)

/-- 'tidewracklaw08.StyleMay', WHERE WHAT IT READS IS OF BULK AT MOST 1048576: true; the input reads as it did. -/
def styleMayUptoRow : OpenClaim := { program := "ytbdocgjhidalfaa", sum := "3a0c8bccde9ab022a547395581677cc891234f0dda5028b6030fe0157d771bae", func := "tidewrack/tidewracklaw08.StyleMay", spec := "styleMay", apart := false, narrowed := true }
def StyleMayUptoSaid : Prop := styleMayUptoRow.holds Try.pinned (OpenSpec.upto styleMaySpec)

/-- 'tidewracklaw08.StyleOrders', WHERE WHAT IT READS IS OF BULK AT MOST 1048576: true; the input reads as it did. -/
def styleOrdersUptoRow : OpenClaim := { program := "ytbdocgjhidalfaa", sum := "3a0c8bccde9ab022a547395581677cc891234f0dda5028b6030fe0157d771bae", func := "tidewrack/tidewracklaw08.StyleOrders", spec := "styleOrders", apart := false, narrowed := true }
def StyleOrdersUptoSaid : Prop := styleOrdersUptoRow.holds Try.pinned (OpenSpec.upto styleOrdersSpec)

end Rows
end Go.Proofs.Ytbdocgjhidalfaa
