/-
  NARROWER THAN 'FOR EVERY INPUT', by the rows' own cells (each row's printed sentence says how): BookLong: laid · BookJoins: laid · BookBlanks: laid · BookStays: laid · BookReads: laid · BookBack: laid.
  DERIVED. THE GIVEN ROWS OF THIS SEAT. 6 by the template 'for every input the law returns true; each argument reads behind the call as it read before'; 0 by the template 'total and deterministic' (their statements: YthmdgjdgnfoloaaDoorTotals.lean).
  GIVEN WITH THE SEED: the statements are not yours to turn. If you find one false, say at which input.
  Laid BY PROGRAM, IN A SANDBOX (cutbox-rows.mjs): the forced cells as the released guide's own fill.sh prints them over the translation daf97ebdcf0fca0b… (all of the seat's roots in one cut). By AI agents, Wed Nov 11 2026. No macro, syntax, notation, axiom, sorry.
-/
import Derived.Test.YthmdgjdgnfoloaaDoorChecked
import GoSem.Claim
import GoSem.ClaimJoined
import GoSem.ClaimMapViews
import Derived.JoinedTies
import Derived.KernelRfl
namespace Go.Proofs.YthmdgjdgnfoloaaDoor
/- THE CELL 'sum', in the pinned program and in every row, IS THE sha256 OF THE DUMP (.gsa) THAT YthmdgjdgnfoloaaDoorProg.lean LOADS. Nothing in Lean hashes anything: it is a label: what it is worth is what the hold of that sum in a sandbox is worth. -/
noncomputable def Tryd.pinned : Pinned := { name := "ythmdgjdgnfoloaadoor", sum := "daf97ebdcf0fca0bb6b9017bb5a75419c27333e61f7b63b20873a0bd166808eb", checked := Tryd.checked }
namespace Rows
def none {H : Type} : Left H := { results := [], args := [] }

/- WHAT THE LISTED PACKAGE-LEVEL VARIABLES READ AS WHEN THE CALL BEGINS. Each datum BY PROGRAM (the guide's laid-datum.mjs) off the statement by which the dump's own 'gosem.cut.vars' lays the variable. In a bare row this is a premise. The card (YthmdgjdgnfoloaaDoorCards.lean) ties it to the program's text. -/
def laid_tidewrack_sum_half {H : Type} : DataW H := .agg [.lit (.int .u32 0), .lit (.int .u32 498536548), .lit (.int .u32 997073096), .lit (.int .u32 651767980), .lit (.int .u32 1994146192), .lit (.int .u32 1802195444), .lit (.int .u32 1303535960), .lit (.int .u32 1342533948), .lit (.int .u32 3988292384), .lit (.int .u32 4027552580), .lit (.int .u32 3604390888), .lit (.int .u32 3412177804), .lit (.int .u32 2607071920), .lit (.int .u32 2262029012), .lit (.int .u32 2685067896), .lit (.int .u32 3183342108)]
def laid_tidewrack_wide_twos {H : Type} : DataW H := .agg [.agg [.lit (.int .i32 4352), .lit (.int .i32 4447)], .agg [.lit (.int .i32 11904), .lit (.int .i32 12350)], .agg [.lit (.int .i32 12353), .lit (.int .i32 13311)], .agg [.lit (.int .i32 13312), .lit (.int .i32 19903)], .agg [.lit (.int .i32 19968), .lit (.int .i32 40959)], .agg [.lit (.int .i32 40960), .lit (.int .i32 42191)], .agg [.lit (.int .i32 44032), .lit (.int .i32 55203)], .agg [.lit (.int .i32 63744), .lit (.int .i32 64255)], .agg [.lit (.int .i32 65072), .lit (.int .i32 65135)], .agg [.lit (.int .i32 65280), .lit (.int .i32 65376)], .agg [.lit (.int .i32 65504), .lit (.int .i32 65510)], .agg [.lit (.int .i32 127744), .lit (.int .i32 128591)], .agg [.lit (.int .i32 129280), .lit (.int .i32 129535)], .agg [.lit (.int .i32 131072), .lit (.int .i32 262141)]]
def laid_tidewrack_wide_nones {H : Type} : DataW H := .agg [.agg [.lit (.int .i32 (-2147483648)), .lit (.int .i32 31)], .agg [.lit (.int .i32 127), .lit (.int .i32 159)], .agg [.lit (.int .i32 768), .lit (.int .i32 879)], .agg [.lit (.int .i32 6832), .lit (.int .i32 6911)], .agg [.lit (.int .i32 7616), .lit (.int .i32 7679)], .agg [.lit (.int .i32 8203), .lit (.int .i32 8207)], .agg [.lit (.int .i32 8400), .lit (.int .i32 8447)], .agg [.lit (.int .i32 55296), .lit (.int .i32 57343)], .agg [.lit (.int .i32 65024), .lit (.int .i32 65039)], .agg [.lit (.int .i32 65056), .lit (.int .i32 65071)], .agg [.lit (.int .i32 65279), .lit (.int .i32 65279)], .agg [.lit (.int .i32 917760), .lit (.int .i32 917999)], .agg [.lit (.int .i32 1114112), .lit (.int .i32 2147483647)]]

/-- 'tidewracklaw12.BookLong': WHATEVER THE INPUT: true; the input reads as it did. -/
def bookLongSpec : ChangeSpec := { name := "bookLong", fn := fun _ => fun
  | [d1, d2] => { results := [.lit (.bool true)], args := [d1, d2] }
  | _ => none }
def bookLongRow : OpenClaim := { program := "ythmdgjdgnfoloaadoor", sum := "daf97ebdcf0fca0bb6b9017bb5a75419c27333e61f7b63b20873a0bd166808eb", func := "tidewrack/tidewracklaw12.BookLong", spec := "bookLong", unfollowed := true, recurses := true, named := ["tidewrack/wide.nones", "tidewrack/wide.twos", "tidewrack/sum.half"], apart := false, laid := [("tidewrack/sum.half", laid_tidewrack_sum_half), ("tidewrack/wide.twos", laid_tidewrack_wide_twos), ("tidewrack/wide.nones", laid_tidewrack_wide_nones)] }
def BookLongSaid : Prop := bookLongRow.holds Tryd.pinned (OpenSpec.ofChange bookLongSpec)

/-- ITS FALSE NEIGHBOUR: 'it returns false'. Refute it at one input. -/
def bookLongWrong : ChangeSpec := { name := "bookLong", fn := fun _ => fun
  | [d1, d2] => { results := [.lit (.bool false)], args := [d1, d2] }
  | _ => none }
def BookLongWrongFalsely : Prop := bookLongRow.holds Tryd.pinned (OpenSpec.ofChange bookLongWrong)

/-- 'tidewracklaw12.BookJoins': WHATEVER THE INPUT: true; the input reads as it did. -/
def bookJoinsSpec : ChangeSpec := { name := "bookJoins", fn := fun _ => fun
  | [d] => { results := [.lit (.bool true)], args := [d] }
  | _ => none }
def bookJoinsRow : OpenClaim := { program := "ythmdgjdgnfoloaadoor", sum := "daf97ebdcf0fca0bb6b9017bb5a75419c27333e61f7b63b20873a0bd166808eb", func := "tidewrack/tidewracklaw12.BookJoins", spec := "bookJoins", unfollowed := true, recurses := true, named := ["tidewrack/wide.nones", "tidewrack/wide.twos", "tidewrack/sum.half"], apart := false, laid := [("tidewrack/sum.half", laid_tidewrack_sum_half), ("tidewrack/wide.twos", laid_tidewrack_wide_twos), ("tidewrack/wide.nones", laid_tidewrack_wide_nones)] }
def BookJoinsSaid : Prop := bookJoinsRow.holds Tryd.pinned (OpenSpec.ofChange bookJoinsSpec)

/-- ITS FALSE NEIGHBOUR: 'it returns false'. Refute it at one input. -/
def bookJoinsWrong : ChangeSpec := { name := "bookJoins", fn := fun _ => fun
  | [d] => { results := [.lit (.bool false)], args := [d] }
  | _ => none }
def BookJoinsWrongFalsely : Prop := bookJoinsRow.holds Tryd.pinned (OpenSpec.ofChange bookJoinsWrong)

/-- 'tidewracklaw12.BookBlanks': WHATEVER THE INPUT: true; the input reads as it did. -/
def bookBlanksSpec : ChangeSpec := { name := "bookBlanks", fn := fun _ => fun
  | [d1, d2, d3] => { results := [.lit (.bool true)], args := [d1, d2, d3] }
  | _ => none }
def bookBlanksRow : OpenClaim := { program := "ythmdgjdgnfoloaadoor", sum := "daf97ebdcf0fca0bb6b9017bb5a75419c27333e61f7b63b20873a0bd166808eb", func := "tidewrack/tidewracklaw12.BookBlanks", spec := "bookBlanks", unfollowed := true, recurses := true, named := ["tidewrack/wide.nones", "tidewrack/wide.twos", "tidewrack/sum.half"], apart := false, laid := [("tidewrack/sum.half", laid_tidewrack_sum_half), ("tidewrack/wide.twos", laid_tidewrack_wide_twos), ("tidewrack/wide.nones", laid_tidewrack_wide_nones)] }
def BookBlanksSaid : Prop := bookBlanksRow.holds Tryd.pinned (OpenSpec.ofChange bookBlanksSpec)

/-- ITS FALSE NEIGHBOUR: 'it returns false'. Refute it at one input. -/
def bookBlanksWrong : ChangeSpec := { name := "bookBlanks", fn := fun _ => fun
  | [d1, d2, d3] => { results := [.lit (.bool false)], args := [d1, d2, d3] }
  | _ => none }
def BookBlanksWrongFalsely : Prop := bookBlanksRow.holds Tryd.pinned (OpenSpec.ofChange bookBlanksWrong)

/-- 'tidewracklaw12.BookStays': WHATEVER THE INPUT: true; the input reads as it did. -/
def bookStaysSpec : ChangeSpec := { name := "bookStays", fn := fun _ => fun
  | [d1, d2] => { results := [.lit (.bool true)], args := [d1, d2] }
  | _ => none }
def bookStaysRow : OpenClaim := { program := "ythmdgjdgnfoloaadoor", sum := "daf97ebdcf0fca0bb6b9017bb5a75419c27333e61f7b63b20873a0bd166808eb", func := "tidewrack/tidewracklaw12.BookStays", spec := "bookStays", unfollowed := true, recurses := true, named := ["tidewrack/wide.nones", "tidewrack/wide.twos", "tidewrack/sum.half"], apart := false, laid := [("tidewrack/sum.half", laid_tidewrack_sum_half), ("tidewrack/wide.twos", laid_tidewrack_wide_twos), ("tidewrack/wide.nones", laid_tidewrack_wide_nones)] }
def BookStaysSaid : Prop := bookStaysRow.holds Tryd.pinned (OpenSpec.ofChange bookStaysSpec)

/-- ITS FALSE NEIGHBOUR: 'it returns false'. Refute it at one input. -/
def bookStaysWrong : ChangeSpec := { name := "bookStays", fn := fun _ => fun
  | [d1, d2] => { results := [.lit (.bool false)], args := [d1, d2] }
  | _ => none }
def BookStaysWrongFalsely : Prop := bookStaysRow.holds Tryd.pinned (OpenSpec.ofChange bookStaysWrong)

/-- 'tidewracklaw12.BookReads': WHATEVER THE INPUT: true; the input reads as it did. -/
def bookReadsSpec : ChangeSpec := { name := "bookReads", fn := fun _ => fun
  | [d] => { results := [.lit (.bool true)], args := [d] }
  | _ => none }
def bookReadsRow : OpenClaim := { program := "ythmdgjdgnfoloaadoor", sum := "daf97ebdcf0fca0bb6b9017bb5a75419c27333e61f7b63b20873a0bd166808eb", func := "tidewrack/tidewracklaw12.BookReads", spec := "bookReads", unfollowed := true, recurses := true, named := ["tidewrack/wide.nones", "tidewrack/wide.twos", "tidewrack/sum.half"], apart := false, laid := [("tidewrack/sum.half", laid_tidewrack_sum_half), ("tidewrack/wide.twos", laid_tidewrack_wide_twos), ("tidewrack/wide.nones", laid_tidewrack_wide_nones)] }
def BookReadsSaid : Prop := bookReadsRow.holds Tryd.pinned (OpenSpec.ofChange bookReadsSpec)

/-- ITS FALSE NEIGHBOUR: 'it returns false'. Refute it at one input. -/
def bookReadsWrong : ChangeSpec := { name := "bookReads", fn := fun _ => fun
  | [d] => { results := [.lit (.bool false)], args := [d] }
  | _ => none }
def BookReadsWrongFalsely : Prop := bookReadsRow.holds Tryd.pinned (OpenSpec.ofChange bookReadsWrong)

/-- 'tidewracklaw12.BookBack': WHATEVER THE INPUT: true; the input reads as it did. -/
def bookBackSpec : ChangeSpec := { name := "bookBack", fn := fun _ => fun
  | [d] => { results := [.lit (.bool true)], args := [d] }
  | _ => none }
def bookBackRow : OpenClaim := { program := "ythmdgjdgnfoloaadoor", sum := "daf97ebdcf0fca0bb6b9017bb5a75419c27333e61f7b63b20873a0bd166808eb", func := "tidewrack/tidewracklaw12.BookBack", spec := "bookBack", unfollowed := true, recurses := true, named := ["tidewrack/wide.nones", "tidewrack/wide.twos", "tidewrack/sum.half"], apart := false, laid := [("tidewrack/sum.half", laid_tidewrack_sum_half), ("tidewrack/wide.twos", laid_tidewrack_wide_twos), ("tidewrack/wide.nones", laid_tidewrack_wide_nones)] }
def BookBackSaid : Prop := bookBackRow.holds Tryd.pinned (OpenSpec.ofChange bookBackSpec)

/-- ITS FALSE NEIGHBOUR: 'it returns false'. Refute it at one input. -/
def bookBackWrong : ChangeSpec := { name := "bookBack", fn := fun _ => fun
  | [d] => { results := [.lit (.bool false)], args := [d] }
  | _ => none }
def BookBackWrongFalsely : Prop := bookBackRow.holds Tryd.pinned (OpenSpec.ofChange bookBackWrong)

/- THE SECOND FORM. 'bulk': how many values and letters a reading holds, each counted each time it is reached (what is shared counts as often as it is met; a slice's spare places count too). A statement '..UptoSaid' is the law's where the arguments, and the package variables that the reading takes, are together of bulk at most 1048576: NARROWER than '..Said'. Prove '..Said' where nothing that the law and all that it calls make is longer than what came in: it says more and counts as full. Else prove '..UptoSaid'. A law counts once. -/
mutual
def uptoBulk {H : Type} : DataW H → Nat
  | .lit (.string bytes) => bytes.length + 1
  | .lit _ => 1
  | .nil => 1
  | .ptr d => uptoBulk d + 1
  | .slice elems spare => uptoBulkAll elems + uptoBulkAll spare + 1
  | .agg parts => uptoBulkAll parts + 1
  | .iface _ d => uptoBulk d + 1
  | .map entries => uptoBulkEntries entries + 1
  | .held _ => 1
def uptoBulkAll {H : Type} : List (DataW H) → Nat
  | [] => 0
  | d :: r => uptoBulk d + uptoBulkAll r
def uptoBulkEntries {H : Type} : List (Lit × DataW H) → Nat
  | [] => 0
  | x :: r => uptoBulkEntry x + uptoBulkEntries r
def uptoBulkEntry {H : Type} : Lit × DataW H → Nat
  | (.string bytes, d) => bytes.length + uptoBulk d + 1
  | (_, d) => uptoBulk d + 1
 end
def uptoSmall : (H : Type) → List (DataW H) → Bool := fun _ ds => decide (uptoBulkAll ds ≤ 1048576)
def OpenSpec.upto (s : _root_.Go.ChangeSpec) : _root_.Go.OpenSpec := { _root_.Go.OpenSpec.ofChange s with cond := some uptoSmall }

/-- 'tidewracklaw12.BookLong', WHERE WHAT IT READS IS OF BULK AT MOST 1048576: true; the input reads as it did. -/
def bookLongUptoRow : OpenClaim := { program := "ythmdgjdgnfoloaadoor", sum := "daf97ebdcf0fca0bb6b9017bb5a75419c27333e61f7b63b20873a0bd166808eb", func := "tidewrack/tidewracklaw12.BookLong", spec := "bookLong", unfollowed := true, recurses := true, named := ["tidewrack/wide.nones", "tidewrack/wide.twos", "tidewrack/sum.half"], apart := false, laid := [("tidewrack/sum.half", laid_tidewrack_sum_half), ("tidewrack/wide.twos", laid_tidewrack_wide_twos), ("tidewrack/wide.nones", laid_tidewrack_wide_nones)], narrowed := true }
def BookLongUptoSaid : Prop := bookLongUptoRow.holds Tryd.pinned (OpenSpec.upto bookLongSpec)

/-- 'tidewracklaw12.BookJoins', WHERE WHAT IT READS IS OF BULK AT MOST 1048576: true; the input reads as it did. -/
def bookJoinsUptoRow : OpenClaim := { program := "ythmdgjdgnfoloaadoor", sum := "daf97ebdcf0fca0bb6b9017bb5a75419c27333e61f7b63b20873a0bd166808eb", func := "tidewrack/tidewracklaw12.BookJoins", spec := "bookJoins", unfollowed := true, recurses := true, named := ["tidewrack/wide.nones", "tidewrack/wide.twos", "tidewrack/sum.half"], apart := false, laid := [("tidewrack/sum.half", laid_tidewrack_sum_half), ("tidewrack/wide.twos", laid_tidewrack_wide_twos), ("tidewrack/wide.nones", laid_tidewrack_wide_nones)], narrowed := true }
def BookJoinsUptoSaid : Prop := bookJoinsUptoRow.holds Tryd.pinned (OpenSpec.upto bookJoinsSpec)

/-- 'tidewracklaw12.BookBlanks', WHERE WHAT IT READS IS OF BULK AT MOST 1048576: true; the input reads as it did. -/
def bookBlanksUptoRow : OpenClaim := { program := "ythmdgjdgnfoloaadoor", sum := "daf97ebdcf0fca0bb6b9017bb5a75419c27333e61f7b63b20873a0bd166808eb", func := "tidewrack/tidewracklaw12.BookBlanks", spec := "bookBlanks", unfollowed := true, recurses := true, named := ["tidewrack/wide.nones", "tidewrack/wide.twos", "tidewrack/sum.half"], apart := false, laid := [("tidewrack/sum.half", laid_tidewrack_sum_half), ("tidewrack/wide.twos", laid_tidewrack_wide_twos), ("tidewrack/wide.nones", laid_tidewrack_wide_nones)], narrowed := true }
def BookBlanksUptoSaid : Prop := bookBlanksUptoRow.holds Tryd.pinned (OpenSpec.upto bookBlanksSpec)

/-- 'tidewracklaw12.BookStays', WHERE WHAT IT READS IS OF BULK AT MOST 1048576: true; the input reads as it did. -/
def bookStaysUptoRow : OpenClaim := { program := "ythmdgjdgnfoloaadoor", sum := "daf97ebdcf0fca0bb6b9017bb5a75419c27333e61f7b63b20873a0bd166808eb", func := "tidewrack/tidewracklaw12.BookStays", spec := "bookStays", unfollowed := true, recurses := true, named := ["tidewrack/wide.nones", "tidewrack/wide.twos", "tidewrack/sum.half"], apart := false, laid := [("tidewrack/sum.half", laid_tidewrack_sum_half), ("tidewrack/wide.twos", laid_tidewrack_wide_twos), ("tidewrack/wide.nones", laid_tidewrack_wide_nones)], narrowed := true }
def BookStaysUptoSaid : Prop := bookStaysUptoRow.holds Tryd.pinned (OpenSpec.upto bookStaysSpec)

/-- 'tidewracklaw12.BookReads', WHERE WHAT IT READS IS OF BULK AT MOST 1048576: true; the input reads as it did. -/
def bookReadsUptoRow : OpenClaim := { program := "ythmdgjdgnfoloaadoor", sum := "daf97ebdcf0fca0bb6b9017bb5a75419c27333e61f7b63b20873a0bd166808eb", func := "tidewrack/tidewracklaw12.BookReads", spec := "bookReads", unfollowed := true, recurses := true, named := ["tidewrack/wide.nones", "tidewrack/wide.twos", "tidewrack/sum.half"], apart := false, laid := [("tidewrack/sum.half", laid_tidewrack_sum_half), ("tidewrack/wide.twos", laid_tidewrack_wide_twos), ("tidewrack/wide.nones", laid_tidewrack_wide_nones)], narrowed := true }
def BookReadsUptoSaid : Prop := bookReadsUptoRow.holds Tryd.pinned (OpenSpec.upto bookReadsSpec)

/-- 'tidewracklaw12.BookBack', WHERE WHAT IT READS IS OF BULK AT MOST 1048576: true; the input reads as it did. -/
def bookBackUptoRow : OpenClaim := { program := "ythmdgjdgnfoloaadoor", sum := "daf97ebdcf0fca0bb6b9017bb5a75419c27333e61f7b63b20873a0bd166808eb", func := "tidewrack/tidewracklaw12.BookBack", spec := "bookBack", unfollowed := true, recurses := true, named := ["tidewrack/wide.nones", "tidewrack/wide.twos", "tidewrack/sum.half"], apart := false, laid := [("tidewrack/sum.half", laid_tidewrack_sum_half), ("tidewrack/wide.twos", laid_tidewrack_wide_twos), ("tidewrack/wide.nones", laid_tidewrack_wide_nones)], narrowed := true }
def BookBackUptoSaid : Prop := bookBackUptoRow.holds Tryd.pinned (OpenSpec.upto bookBackSpec)

end Rows
end Go.Proofs.YthmdgjdgnfoloaaDoor
