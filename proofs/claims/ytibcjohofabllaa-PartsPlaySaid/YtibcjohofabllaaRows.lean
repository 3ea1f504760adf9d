/-
  No cell of these rows narrows 'for every input' (looked for: loops, veiled, ifaces, maps, wideKeys, modest, calm, conditions, laid).
  DERIVED. THE GIVEN ROWS OF THIS SEAT. 4 by the template 'for every input the law returns true; each argument reads behind the call as it read before'; 0 by the template 'total and deterministic' (their statements: YtibcjohofabllaaTotals.lean).
  GIVEN WITH THE SEED: the statements are not yours to turn. If you find one false, say at which input.
  Laid BY PROGRAM, IN A SANDBOX (cutbox-rows.mjs): the forced cells as the released guide's own fill.sh prints them over the translation ab4fcb7e8d020881… (all of the seat's roots in one cut). By AI agents, Wed Nov 11 2026. No macro, syntax, notation, axiom, sorry.
-/
import Derived.Test.YtibcjohofabllaaChecked
import GoSem.Claim
import GoSem.ClaimJoined
import GoSem.ClaimMapViews
import Derived.JoinedTies
import Derived.KernelRfl
namespace Go.Proofs.Ytibcjohofabllaa
/- THE CELL 'sum', in the pinned program and in every row, IS THE sha256 OF THE DUMP (.gsa) THAT YtibcjohofabllaaProg.lean LOADS. Nothing in Lean hashes anything: it is a label: what it is worth is what the hold of that sum in a sandbox is worth. -/
noncomputable def Try.pinned : Pinned := { name := "ytibcjohofabllaa", sum := "ab4fcb7e8d02088158e45ff784907948b6d8a067f01453c1b7d0371b5a2f9924", checked := Try.checked }
namespace Rows
def none {H : Type} : Left H := { results := [], args := [] }

/-- 'tidewracklaw04.PartsSplit': WHATEVER THE INPUT: true; the input reads as it did. -/
def partsSplitSpec : ChangeSpec := { name := "partsSplit", fn := fun _ => fun
  | [d1, d2] => { results := [.lit (.bool true)], args := [d1, d2] }
  | _ => none }
def partsSplitRow : OpenClaim := { program := "ytibcjohofabllaa", sum := "ab4fcb7e8d02088158e45ff784907948b6d8a067f01453c1b7d0371b5a2f9924", func := "tidewrack/tidewracklaw04.PartsSplit", spec := "partsSplit", inPlace := ["internal/abi.NoEscape"], unfollowed := true, recurses := true, apart := false }
def PartsSplitSaid : Prop := partsSplitRow.holds Try.pinned (OpenSpec.ofChange partsSplitSpec)

/-- ITS FALSE NEIGHBOUR: 'it returns false'. Refute it at one input. -/
def partsSplitWrong : ChangeSpec := { name := "partsSplit", fn := fun _ => fun
  | [d1, d2] => { results := [.lit (.bool false)], args := [d1, d2] }
  | _ => none }
def PartsSplitWrongFalsely : Prop := partsSplitRow.holds Try.pinned (OpenSpec.ofChange partsSplitWrong)

/-- 'tidewracklaw04.PartsSizes': WHATEVER THE INPUT: true; the input reads as it did. -/
def partsSizesSpec : ChangeSpec := { name := "partsSizes", fn := fun _ => fun
  | [d1, d2] => { results := [.lit (.bool true)], args := [d1, d2] }
  | _ => none }
def partsSizesRow : OpenClaim := { program := "ytibcjohofabllaa", sum := "ab4fcb7e8d02088158e45ff784907948b6d8a067f01453c1b7d0371b5a2f9924", func := "tidewrack/tidewracklaw04.PartsSizes", spec := "partsSizes", inPlace := ["internal/abi.NoEscape"], unfollowed := true, recurses := true, apart := false }
def PartsSizesSaid : Prop := partsSizesRow.holds Try.pinned (OpenSpec.ofChange partsSizesSpec)

/-- ITS FALSE NEIGHBOUR: 'it returns false'. Refute it at one input. -/
def partsSizesWrong : ChangeSpec := { name := "partsSizes", fn := fun _ => fun
  | [d1, d2] => { results := [.lit (.bool false)], args := [d1, d2] }
  | _ => none }
def PartsSizesWrongFalsely : Prop := partsSizesRow.holds Try.pinned (OpenSpec.ofChange partsSizesWrong)

/-- 'tidewracklaw04.PartsBack': WHATEVER THE INPUT: true; the input reads as it did. -/
def partsBackSpec : ChangeSpec := { name := "partsBack", fn := fun _ => fun
  | [d1, d2, d3] => { results := [.lit (.bool true)], args := [d1, d2, d3] }
  | _ => none }
def partsBackRow : OpenClaim := { program := "ytibcjohofabllaa", sum := "ab4fcb7e8d02088158e45ff784907948b6d8a067f01453c1b7d0371b5a2f9924", func := "tidewrack/tidewracklaw04.PartsBack", spec := "partsBack", inPlace := ["internal/abi.NoEscape"], unfollowed := true, recurses := true, apart := false }
def PartsBackSaid : Prop := partsBackRow.holds Try.pinned (OpenSpec.ofChange partsBackSpec)

/-- ITS FALSE NEIGHBOUR: 'it returns false'. Refute it at one input. -/
def partsBackWrong : ChangeSpec := { name := "partsBack", fn := fun _ => fun
  | [d1, d2, d3] => { results := [.lit (.bool false)], args := [d1, d2, d3] }
  | _ => none }
def PartsBackWrongFalsely : Prop := partsBackRow.holds Try.pinned (OpenSpec.ofChange partsBackWrong)

/-- 'tidewracklaw04.PartsPlay': WHATEVER THE INPUT: true; the input reads as it did. -/
def partsPlaySpec : ChangeSpec := { name := "partsPlay", fn := fun _ => fun
  | [d] => { results := [.lit (.bool true)], args := [d] }
  | _ => none }
def partsPlayRow : OpenClaim := { program := "ytibcjohofabllaa", sum := "ab4fcb7e8d02088158e45ff784907948b6d8a067f01453c1b7d0371b5a2f9924", func := "tidewrack/tidewracklaw04.PartsPlay", spec := "partsPlay", inPlace := ["internal/abi.NoEscape", "maps.clone"], unfollowed := true, recurses := true, apart := false }
def PartsPlaySaid : Prop := partsPlayRow.holds Try.pinned (OpenSpec.ofChange partsPlaySpec)

/-- ITS FALSE NEIGHBOUR: 'it returns false'. Refute it at one input. -/
def partsPlayWrong : ChangeSpec := { name := "partsPlay", fn := fun _ => fun
  | [d] => { results := [.lit (.bool false)], args := [d] }
  | _ => none }
def PartsPlayWrongFalsely : Prop := partsPlayRow.holds Try.pinned (OpenSpec.ofChange partsPlayWrong)

/- THE SECOND FORM. 'bulk': how many values and letters a reading holds, each counted each time it is reached (what is shared counts as often as it is met; a slice's spare places count too). A statement '..UptoSaid' is the law's where the arguments, and the package variables that the reading takes, are together of bulk at most 1048576: NARROWER than '..Said'. Prove '..Said' where nothing that the law and all that it calls make is longer than what came in: it says more and counts as full. Else prove '..UptoSaid'. A law counts once. -/
mutual
def uptoBulk {H : Type} : DataW H → Nat
  | .lit (.string bytes) => bytes.length + 1
  | .lit _ => 1
  | .nil => 1
  | .ptr d => uptoBulk d + 1
  | .slice elems spare => uptoBulkAll elems + uptoBulkAll spare + 1
  | .agg parts => uptoBulkAll parts + 1
  | .iface _ d => uptoBulk d + 1
  | .map entries => uptoBulkEntries entries + 1
  | .held _ => 1
def uptoBulkAll {H : Type} : List (DataW H) → Nat
  | [] => 0
  | d :: r => uptoBulk d + uptoBulkAll r
def uptoBulkEntries {H : Type} : List (Lit × DataW H) → Nat
  | [] => 0
  | x :: r => uptoBulkEntry x + uptoBulkEntries r
def uptoBulkEntry {H : Type} : Lit × DataW H → Nat
  | (.string bytes, d) => bytes.length + uptoBulk d + 1
  | (_, d) => uptoBulk d + 1
 end
def uptoSmall : (H : Type) → List (DataW H) → Bool := fun _ ds => decide (uptoBulkAll ds ≤ 1048576)
def OpenSpec.upto (s : _root_.Go.ChangeSpec) : _root_.Go.OpenSpec := { _root_.Go.OpenSpec.ofChange s with cond := some uptoSmall }

/-- 'tidewracklaw04.PartsSplit', WHERE WHAT IT READS IS OF BULK AT MOST 1048576: true; the input reads as it did. -/
def partsSplitUptoRow : OpenClaim := { program := "ytibcjohofabllaa", sum := "ab4fcb7e8d02088158e45ff784907948b6d8a067f01453c1b7d0371b5a2f9924", func := "tidewrack/tidewracklaw04.PartsSplit", spec := "partsSplit", inPlace := ["internal/abi.NoEscape"], unfollowed := true, recurses := true, apart := false, narrowed := true }
def PartsSplitUptoSaid : Prop := partsSplitUptoRow.holds Try.pinned (OpenSpec.upto partsSplitSpec)

/-- 'tidewracklaw04.PartsSizes', WHERE WHAT IT READS IS OF BULK AT MOST 1048576: true; the input reads as it did. -/
def partsSizesUptoRow : OpenClaim := { program := "ytibcjohofabllaa", sum := "ab4fcb7e8d02088158e45ff784907948b6d8a067f01453c1b7d0371b5a2f9924", func := "tidewrack/tidewracklaw04.PartsSizes", spec := "partsSizes", inPlace := ["internal/abi.NoEscape"], unfollowed := true, recurses := true, apart := false, narrowed := true }
def PartsSizesUptoSaid : Prop := partsSizesUptoRow.holds Try.pinned (OpenSpec.upto partsSizesSpec)

/-- 'tidewracklaw04.PartsBack', WHERE WHAT IT READS IS OF BULK AT MOST 1048576: true; the input reads as it did. -/
def partsBackUptoRow : OpenClaim := { program := "ytibcjohofabllaa", sum := "ab4fcb7e8d02088158e45ff784907948b6d8a067f01453c1b7d0371b5a2f9924", func := "tidewrack/tidewracklaw04.PartsBack", spec := "partsBack", inPlace := ["internal/abi.NoEscape"], unfollowed := true, recurses := true, apart := false, narrowed := true }
def PartsBackUptoSaid : Prop := partsBackUptoRow.holds Try.pinned (OpenSpec.upto partsBackSpec)

/-- 'tidewracklaw04.PartsPlay', WHERE WHAT IT READS IS OF BULK AT MOST 1048576: true; the input reads as it did. -/
def partsPlayUptoRow : OpenClaim := { program := "ytibcjohofabllaa", sum := "ab4fcb7e8d02088158e45ff784907948b6d8a067f01453c1b7d0371b5a2f9924", func := "tidewrack/tidewracklaw04.PartsPlay", spec := "partsPlay", inPlace := ["internal/abi.NoEscape", "maps.clone"], unfollowed := true, recurses := true, apart := false, narrowed := true }
def PartsPlayUptoSaid : Prop := partsPlayUptoRow.holds Try.pinned (OpenSpec.upto partsPlaySpec)

end Rows
end Go.Proofs.Ytibcjohofabllaa
