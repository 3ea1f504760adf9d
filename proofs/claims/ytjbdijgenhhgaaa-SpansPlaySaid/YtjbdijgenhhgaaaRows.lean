/-
  No cell of these rows narrows 'for every input' (looked for: loops, veiled, ifaces, maps, wideKeys, modest, calm, conditions, laid).
  DERIVED. THE GIVEN ROWS OF THIS SEAT. 5 by the template 'for every input the law returns true; each argument reads behind the call as it read before'; 0 by the template 'total and deterministic' (their statements: YtjbdijgenhhgaaaTotals.lean).
  GIVEN WITH THE SEED: the statements are not yours to turn. If you find one false, say at which input.
  Laid BY PROGRAM, IN A SANDBOX (cutbox-rows.mjs): the forced cells as the released guide's own fill.sh prints them over the translation 9e78546ca4c82c76… (all of the seat's roots in one cut). By AI agents, Wed Nov 11 2026. No macro, syntax, notation, axiom, sorry.
-/
import Derived.Test.YtjbdijgenhhgaaaChecked
import GoSem.Claim
import GoSem.ClaimJoined
import GoSem.ClaimMapViews
import Derived.JoinedTies
import Derived.KernelRfl
namespace Go.Proofs.Ytjbdijgenhhgaaa
/- THE CELL 'sum', in the pinned program and in every row, IS THE sha256 OF THE DUMP (.gsa) THAT YtjbdijgenhhgaaaProg.lean LOADS. Nothing in Lean hashes anything: it is a label: what it is worth is what the hold of that sum in a sandbox is worth. -/
noncomputable def Try.pinned : Pinned := { name := "ytjbdijgenhhgaaa", sum := "9e78546ca4c82c760f477b1f860fb78fe1c4abbdb3948afd461acd269b2ae25f", checked := Try.checked }
namespace Rows
def none {H : Type} : Left H := { results := [], args := [] }

/-- 'tidewracklaw13.SpansOrder': WHATEVER THE INPUT: true; the input reads as it did. -/
def spansOrderSpec : ChangeSpec := { name := "spansOrder", fn := fun _ => fun
  | [d] => { results := [.lit (.bool true)], args := [d] }
  | _ => none }
def spansOrderRow : OpenClaim := { program := "ytjbdijgenhhgaaa", sum := "9e78546ca4c82c760f477b1f860fb78fe1c4abbdb3948afd461acd269b2ae25f", func := "tidewrack/tidewracklaw13.SpansOrder", spec := "spansOrder", unfollowed := true, recurses := true, apart := false }
def SpansOrderSaid : Prop := spansOrderRow.holds Try.pinned (OpenSpec.ofChange spansOrderSpec)

/-- ITS FALSE NEIGHBOUR: 'it returns false'. Refute it at one input. -/
def spansOrderWrong : ChangeSpec := { name := "spansOrder", fn := fun _ => fun
  | [d] => { results := [.lit (.bool false)], args := [d] }
  | _ => none }
def SpansOrderWrongFalsely : Prop := spansOrderRow.holds Try.pinned (OpenSpec.ofChange spansOrderWrong)

/-- 'tidewracklaw13.SpansCounts': WHATEVER THE INPUT: true; the input reads as it did. -/
def spansCountsSpec : ChangeSpec := { name := "spansCounts", fn := fun _ => fun
  | [d] => { results := [.lit (.bool true)], args := [d] }
  | _ => none }
def spansCountsRow : OpenClaim := { program := "ytjbdijgenhhgaaa", sum := "9e78546ca4c82c760f477b1f860fb78fe1c4abbdb3948afd461acd269b2ae25f", func := "tidewrack/tidewracklaw13.SpansCounts", spec := "spansCounts", unfollowed := true, recurses := true, apart := false }
def SpansCountsSaid : Prop := spansCountsRow.holds Try.pinned (OpenSpec.ofChange spansCountsSpec)

/-- ITS FALSE NEIGHBOUR: 'it returns false'. Refute it at one input. -/
def spansCountsWrong : ChangeSpec := { name := "spansCounts", fn := fun _ => fun
  | [d] => { results := [.lit (.bool false)], args := [d] }
  | _ => none }
def SpansCountsWrongFalsely : Prop := spansCountsRow.holds Try.pinned (OpenSpec.ofChange spansCountsWrong)

/-- 'tidewracklaw13.SpansCutBack': WHATEVER THE INPUT: true; the input reads as it did. -/
def spansCutBackSpec : ChangeSpec := { name := "spansCutBack", fn := fun _ => fun
  | [d1, d2] => { results := [.lit (.bool true)], args := [d1, d2] }
  | _ => none }
def spansCutBackRow : OpenClaim := { program := "ytjbdijgenhhgaaa", sum := "9e78546ca4c82c760f477b1f860fb78fe1c4abbdb3948afd461acd269b2ae25f", func := "tidewrack/tidewracklaw13.SpansCutBack", spec := "spansCutBack", unfollowed := true, recurses := true, apart := false }
def SpansCutBackSaid : Prop := spansCutBackRow.holds Try.pinned (OpenSpec.ofChange spansCutBackSpec)

/-- ITS FALSE NEIGHBOUR: 'it returns false'. Refute it at one input. -/
def spansCutBackWrong : ChangeSpec := { name := "spansCutBack", fn := fun _ => fun
  | [d1, d2] => { results := [.lit (.bool false)], args := [d1, d2] }
  | _ => none }
def SpansCutBackWrongFalsely : Prop := spansCutBackRow.holds Try.pinned (OpenSpec.ofChange spansCutBackWrong)

/-- 'tidewracklaw13.SpansAll': WHATEVER THE INPUT: true; the input reads as it did. -/
def spansAllSpec : ChangeSpec := { name := "spansAll", fn := fun _ => fun
  | [d1, d2] => { results := [.lit (.bool true)], args := [d1, d2] }
  | _ => none }
def spansAllRow : OpenClaim := { program := "ytjbdijgenhhgaaa", sum := "9e78546ca4c82c760f477b1f860fb78fe1c4abbdb3948afd461acd269b2ae25f", func := "tidewrack/tidewracklaw13.SpansAll", spec := "spansAll", unfollowed := true, recurses := true, apart := false }
def SpansAllSaid : Prop := spansAllRow.holds Try.pinned (OpenSpec.ofChange spansAllSpec)

/-- ITS FALSE NEIGHBOUR: 'it returns false'. Refute it at one input. -/
def spansAllWrong : ChangeSpec := { name := "spansAll", fn := fun _ => fun
  | [d1, d2] => { results := [.lit (.bool false)], args := [d1, d2] }
  | _ => none }
def SpansAllWrongFalsely : Prop := spansAllRow.holds Try.pinned (OpenSpec.ofChange spansAllWrong)

/-- 'tidewracklaw13.SpansPlay': WHATEVER THE INPUT: true; the input reads as it did. -/
def spansPlaySpec : ChangeSpec := { name := "spansPlay", fn := fun _ => fun
  | [d1, d2, d3] => { results := [.lit (.bool true)], args := [d1, d2, d3] }
  | _ => none }
def spansPlayRow : OpenClaim := { program := "ytjbdijgenhhgaaa", sum := "9e78546ca4c82c760f477b1f860fb78fe1c4abbdb3948afd461acd269b2ae25f", func := "tidewrack/tidewracklaw13.SpansPlay", spec := "spansPlay", unfollowed := true, recurses := true, apart := false }
def SpansPlaySaid : Prop := spansPlayRow.holds Try.pinned (OpenSpec.ofChange spansPlaySpec)

/-- ITS FALSE NEIGHBOUR: 'it returns false'. Refute it at one input. -/
def spansPlayWrong : ChangeSpec := { name := "spansPlay", fn := fun _ => fun
  | [d1, d2, d3] => { results := [.lit (.bool false)], args := [d1, d2, d3] }
  | _ => none }
def SpansPlayWrongFalsely : Prop := spansPlayRow.holds Try.pinned (OpenSpec.ofChange spansPlayWrong)

/- THE SECOND FORM. 'bulk': how many values and letters a reading holds, each counted each time it is reached (what is shared counts as often as it is met; a slice's spare places count too). A statement '..UptoSaid' is the law's where the arguments, and the package variables that the reading takes, are together of bulk at most 1048576: NARROWER than '..Said'. Prove '..Said' where nothing that the law and all that it calls make is longer than what came in: it says more and counts as full. Else prove '..UptoSaid'. A law counts once. -/
mutual
def uptoBulk {H : Type} : DataW H → Nat
  | .lit (.string bytes) => bytes.length + 1
  | .lit _ => 1
  | .nil => 1
  | .ptr d => uptoBulk d + 1
  | .slice elems spare => uptoBulkAll elems + uptoBulkAll spare + 1
  | .agg parts => uptoBulkAll parts + 1
  | .iface _ d => uptoBulk d + 1
  | .map entries => uptoBulkEntries entries + 1
  | .held _ => 1
def uptoBulkAll {H : Type} : List (DataW H) → Nat
  | [] => 0
  | d :: r => uptoBulk d + uptoBulkAll r
def uptoBulkEntries {H : Type} : List (Lit × DataW H) → Nat
  | [] => 0
  | x :: r => uptoBulkEntry x + uptoBulkEntries r
def uptoBulkEntry {H : Type} : Lit × DataW H → Nat
  | (.string bytes, d) => bytes.length + uptoBulk d + 1
  | (_, d) => uptoBulk d + 1
 end
def uptoSmall : (H : Type) → List (DataW H) → Bool := fun _ ds => decide (uptoBulkAll ds ≤ 1048576)
def OpenSpec.upto (s : _root_.Go.ChangeSpec) : _root_.Go.OpenSpec := { _root_.Go.OpenSpec.ofChange s with cond := some uptoSmall }

/-- 'tidewracklaw13.SpansOrder', WHERE WHAT IT READS IS OF BULK AT MOST 1048576: true; the input reads as it did. -/
def spansOrderUptoRow : OpenClaim := { program := "ytjbdijgenhhgaaa", sum := "9e78546ca4c82c760f477b1f860fb78fe1c4abbdb3948afd461acd269b2ae25f", func := "tidewrack/tidewracklaw13.SpansOrder", spec := "spansOrder", unfollowed := true, recurses := true, apart := false, narrowed := true }
def SpansOrderUptoSaid : Prop := spansOrderUptoRow.holds Try.pinned (OpenSpec.upto spansOrderSpec)

/-- 'tidewracklaw13.SpansCounts', WHERE WHAT IT READS IS OF BULK AT MOST 1048576: true; the input reads as it did. -/
def spansCountsUptoRow : OpenClaim := { program := "ytjbdijgenhhgaaa", sum := "9e78546ca4c82c760f477b1f860fb78fe1c4abbdb3948afd461acd269b2ae25f", func := "tidewrack/tidewracklaw13.SpansCounts", spec := "spansCounts", unfollowed := true, recurses := true, apart := false, narrowed := true }
def SpansCountsUptoSaid : Prop := spansCountsUptoRow.holds Try.pinned (OpenSpec.upto spansCountsSpec)

/-- 'tidewracklaw13.SpansCutBack', WHERE WHAT IT READS IS OF BULK AT MOST 1048576: true; the input reads as it did. -/
def spansCutBackUptoRow : OpenClaim := { program := "ytjbdijgenhhgaaa", sum := "9e78546ca4c82c760f477b1f860fb78fe1c4abbdb3948afd461acd269b2ae25f", func := "tidewrack/tidewracklaw13.SpansCutBack", spec := "spansCutBack", unfollowed := true, recurses := true, apart := false, narrowed := true }
def SpansCutBackUptoSaid : Prop := spansCutBackUptoRow.holds Try.pinned (OpenSpec.upto spansCutBackSpec)

/-- 'tidewracklaw13.SpansAll', WHERE WHAT IT READS IS OF BULK AT MOST 1048576: true; the input reads as it did. -/
def spansAllUptoRow : OpenClaim := { program := "ytjbdijgenhhgaaa", sum := "9e78546ca4c82c760f477b1f860fb78fe1c4abbdb3948afd461acd269b2ae25f", func := "tidewrack/tidewracklaw13.SpansAll", spec := "spansAll", unfollowed := true, recurses := true, apart := false, narrowed := true }
def SpansAllUptoSaid : Prop := spansAllUptoRow.holds Try.pinned (OpenSpec.upto spansAllSpec)

/-- 'tidewracklaw13.SpansPlay', WHERE WHAT IT READS IS OF BULK AT MOST 1048576: true; the input reads as it did. -/
def spansPlayUptoRow : OpenClaim := { program := "ytjbdijgenhhgaaa", sum := "9e78546ca4c82c760f477b1f860fb78fe1c4abbdb3948afd461acd269b2ae25f", func := "tidewrack/tidewracklaw13.SpansPlay", spec := "spansPlay", unfollowed := true, recurses := true, apart := false, narrowed := true }
def SpansPlayUptoSaid : Prop := spansPlayUptoRow.holds Try.pinned (OpenSpec.upto spansPlaySpec)

end Rows
end Go.Proofs.Ytjbdijgenhhgaaa
