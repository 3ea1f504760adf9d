/-
  NARROWER THAN 'FOR EVERY INPUT', by the rows' own cells (each row's printed sentence says how): GramBack: laid · GramParses: laid · GramLongest: laid · GramApart: laid · GramTold: laid.
  DERIVED. THE GIVEN ROWS OF THIS SEAT. 5 by the template 'for every input the law returns true; each argument reads behind the call as it read before'; 0 by the template 'total and deterministic' (their statements: YticilepdpobheaaDoorTotals.lean).
  GIVEN WITH THE SEED: the statements are not yours to turn. If you find one false, say at which input.
  Laid BY PROGRAM, IN A SANDBOX (cutbox-rows.mjs): the forced cells as the released guide's own fill.sh prints them over the translation b2b80df9df448f45… (all of the seat's roots in one cut). By AI agents, Wed Nov 11 2026. No macro, syntax, notation, axiom, sorry.
-/
import Derived.Test.YticilepdpobheaaDoorChecked
import GoSem.Claim
import GoSem.ClaimJoined
import GoSem.ClaimMapViews
import Derived.JoinedTies
import Derived.KernelRfl
namespace Go.Proofs.YticilepdpobheaaDoor
/- THE CELL 'sum', in the pinned program and in every row, IS THE sha256 OF THE DUMP (.gsa) THAT YticilepdpobheaaDoorProg.lean LOADS. Nothing in Lean hashes anything: it is a label: what it is worth is what the hold of that sum in a sandbox is worth. -/
noncomputable def Tryd.pinned : Pinned := { name := "yticilepdpobheaadoor", sum := "b2b80df9df448f45cc3ef6c36ac83c5ce00fd0a57826952091afb7d7ab4bf8fd", checked := Tryd.checked }
namespace Rows
def none {H : Type} : Left H := { results := [], args := [] }

/- WHAT THE LISTED PACKAGE-LEVEL VARIABLES READ AS WHEN THE CALL BEGINS. Each datum BY PROGRAM (the guide's laid-datum.mjs) off the statement by which the dump's own 'gosem.cut.vars' lays the variable. In a bare row this is a premise. The card (YticilepdpobheaaDoorCards.lean) ties it to the program's text. -/
def laid_tidewrack_sum_half {H : Type} : DataW H := .agg [.lit (.int .u32 0), .lit (.int .u32 498536548), .lit (.int .u32 997073096), .lit (.int .u32 651767980), .lit (.int .u32 1994146192), .lit (.int .u32 1802195444), .lit (.int .u32 1303535960), .lit (.int .u32 1342533948), .lit (.int .u32 3988292384), .lit (.int .u32 4027552580), .lit (.int .u32 3604390888), .lit (.int .u32 3412177804), .lit (.int .u32 2607071920), .lit (.int .u32 2262029012), .lit (.int .u32 2685067896), .lit (.int .u32 3183342108)]

/-- 'tidewracklaw03.GramBack': WHATEVER THE INPUT: true; the input reads as it did. -/
def gramBackSpec : ChangeSpec := { name := "gramBack", fn := fun _ => fun
  | [d1, d2] => { results := [.lit (.bool true)], args := [d1, d2] }
  | _ => none }
def gramBackRow : OpenClaim := { program := "yticilepdpobheaadoor", sum := "b2b80df9df448f45cc3ef6c36ac83c5ce00fd0a57826952091afb7d7ab4bf8fd", func := "tidewrack/tidewracklaw03.GramBack", spec := "gramBack", unfollowed := true, recurses := true, named := ["tidewrack/sum.half"], apart := false, laid := [("tidewrack/sum.half", laid_tidewrack_sum_half)] }
def GramBackSaid : Prop := gramBackRow.holds Tryd.pinned (OpenSpec.ofChange gramBackSpec)

/-- ITS FALSE NEIGHBOUR: 'it returns false'. Refute it at one input. -/
def gramBackWrong : ChangeSpec := { name := "gramBack", fn := fun _ => fun
  | [d1, d2] => { results := [.lit (.bool false)], args := [d1, d2] }
  | _ => none }
def GramBackWrongFalsely : Prop := gramBackRow.holds Tryd.pinned (OpenSpec.ofChange gramBackWrong)

/-- 'tidewracklaw03.GramParses': WHATEVER THE INPUT: true; the input reads as it did. -/
def gramParsesSpec : ChangeSpec := { name := "gramParses", fn := fun _ => fun
  | [d1, d2] => { results := [.lit (.bool true)], args := [d1, d2] }
  | _ => none }
def gramParsesRow : OpenClaim := { program := "yticilepdpobheaadoor", sum := "b2b80df9df448f45cc3ef6c36ac83c5ce00fd0a57826952091afb7d7ab4bf8fd", func := "tidewrack/tidewracklaw03.GramParses", spec := "gramParses", unfollowed := true, recurses := true, named := ["tidewrack/sum.half"], apart := false, laid := [("tidewrack/sum.half", laid_tidewrack_sum_half)] }
def GramParsesSaid : Prop := gramParsesRow.holds Tryd.pinned (OpenSpec.ofChange gramParsesSpec)

/-- ITS FALSE NEIGHBOUR: 'it returns false'. Refute it at one input. -/
def gramParsesWrong : ChangeSpec := { name := "gramParses", fn := fun _ => fun
  | [d1, d2] => { results := [.lit (.bool false)], args := [d1, d2] }
  | _ => none }
def GramParsesWrongFalsely : Prop := gramParsesRow.holds Tryd.pinned (OpenSpec.ofChange gramParsesWrong)

/-- 'tidewracklaw03.GramLongest': WHATEVER THE INPUT: true; the input reads as it did. -/
def gramLongestSpec : ChangeSpec := { name := "gramLongest", fn := fun _ => fun
  | [d] => { results := [.lit (.bool true)], args := [d] }
  | _ => none }
def gramLongestRow : OpenClaim := { program := "yticilepdpobheaadoor", sum := "b2b80df9df448f45cc3ef6c36ac83c5ce00fd0a57826952091afb7d7ab4bf8fd", func := "tidewrack/tidewracklaw03.GramLongest", spec := "gramLongest", unfollowed := true, recurses := true, named := ["tidewrack/sum.half"], apart := false, laid := [("tidewrack/sum.half", laid_tidewrack_sum_half)] }
def GramLongestSaid : Prop := gramLongestRow.holds Tryd.pinned (OpenSpec.ofChange gramLongestSpec)

/-- ITS FALSE NEIGHBOUR: 'it returns false'. Refute it at one input. -/
def gramLongestWrong : ChangeSpec := { name := "gramLongest", fn := fun _ => fun
  | [d] => { results := [.lit (.bool false)], args := [d] }
  | _ => none }
def GramLongestWrongFalsely : Prop := gramLongestRow.holds Tryd.pinned (OpenSpec.ofChange gramLongestWrong)

/-- 'tidewracklaw03.GramApart': WHATEVER THE INPUT: true; the input reads as it did. -/
def gramApartSpec : ChangeSpec := { name := "gramApart", fn := fun _ => fun
  | [d1, d2] => { results := [.lit (.bool true)], args := [d1, d2] }
  | _ => none }
def gramApartRow : OpenClaim := { program := "yticilepdpobheaadoor", sum := "b2b80df9df448f45cc3ef6c36ac83c5ce00fd0a57826952091afb7d7ab4bf8fd", func := "tidewrack/tidewracklaw03.GramApart", spec := "gramApart", unfollowed := true, recurses := true, named := ["tidewrack/sum.half"], apart := false, laid := [("tidewrack/sum.half", laid_tidewrack_sum_half)] }
def GramApartSaid : Prop := gramApartRow.holds Tryd.pinned (OpenSpec.ofChange gramApartSpec)

/-- ITS FALSE NEIGHBOUR: 'it returns false'. Refute it at one input. -/
def gramApartWrong : ChangeSpec := { name := "gramApart", fn := fun _ => fun
  | [d1, d2] => { results := [.lit (.bool false)], args := [d1, d2] }
  | _ => none }
def GramApartWrongFalsely : Prop := gramApartRow.holds Tryd.pinned (OpenSpec.ofChange gramApartWrong)

/-- 'tidewracklaw03.GramTold': WHATEVER THE INPUT: true; the input reads as it did. -/
def gramToldSpec : ChangeSpec := { name := "gramTold", fn := fun _ => fun
  | [d1, d2, d3] => { results := [.lit (.bool true)], args := [d1, d2, d3] }
  | _ => none }
def gramToldRow : OpenClaim := { program := "yticilepdpobheaadoor", sum := "b2b80df9df448f45cc3ef6c36ac83c5ce00fd0a57826952091afb7d7ab4bf8fd", func := "tidewrack/tidewracklaw03.GramTold", spec := "gramTold", unfollowed := true, recurses := true, named := ["tidewrack/sum.half"], apart := false, laid := [("tidewrack/sum.half", laid_tidewrack_sum_half)] }
def GramToldSaid : Prop := gramToldRow.holds Tryd.pinned (OpenSpec.ofChange gramToldSpec)

/-- ITS FALSE NEIGHBOUR: 'it returns false'. Refute it at one input. -/
def gramToldWrong : ChangeSpec := { name := "gramTold", fn := fun _ => fun
  | [d1, d2, d3] => { results := [.lit (.bool false)], args := [d1, d2, d3] }
  | _ => none }
def GramToldWrongFalsely : Prop := gramToldRow.holds Tryd.pinned (OpenSpec.ofChange gramToldWrong)

/- THE SECOND FORM. 'bulk': how many values and letters a reading holds, each counted each time it is reached (what is shared counts as often as it is met; a slice's spare places count too). A statement '..UptoSaid' is the law's where the arguments, and the package variables that the reading takes, are together of bulk at most 1048576: NARROWER than '..Said'. Prove '..Said' where nothing that the law and all that it calls make is longer than what came in: it says more and counts as full. Else prove '..UptoSaid'. A law counts once. -/
mutual
def uptoBulk {H : Type} : DataW H → Nat
  | .lit (.string bytes) => bytes.length + 1
  | .lit _ => 1
  | .nil => 1
  | .ptr d => uptoBulk d + 1
  | .slice elems spare => uptoBulkAll elems + uptoBulkAll spare + 1
  | .agg parts => uptoBulkAll parts + 1
  | .iface _ d => uptoBulk d + 1
  | .map entries => uptoBulkEntries entries + 1
  | .held _ => 1
def uptoBulkAll {H : Type} : List (DataW H) → Nat
  | [] => 0
  | d :: r => uptoBulk d + uptoBulkAll r
def uptoBulkEntries {H : Type} : List (Lit × DataW H) → Nat
  | [] => 0
  | x :: r => uptoBulkEntry x + uptoBulkEntries r
def uptoBulkEntry {H : Type} : Lit × DataW H → Nat
  | (.string bytes, d) => bytes.length + uptoBulk d + 1
  | (_, d) => uptoBulk d + 1
 end
def uptoSmall : (H : Type) → List (DataW H) → Bool := fun _ ds => decide (uptoBulkAll ds ≤ 1048576)
def OpenSpec.upto (s : _root_.Go.ChangeSpec) : _root_.Go.OpenSpec := { _root_.Go.OpenSpec.ofChange s with cond := some uptoSmall }

/-- 'tidewracklaw03.GramBack', WHERE WHAT IT READS IS OF BULK AT MOST 1048576: true; the input reads as it did. -/
def gramBackUptoRow : OpenClaim := { program := "yticilepdpobheaadoor", sum := "b2b80df9df448f45cc3ef6c36ac83c5ce00fd0a57826952091afb7d7ab4bf8fd", func := "tidewrack/tidewracklaw03.GramBack", spec := "gramBack", unfollowed := true, recurses := true, named := ["tidewrack/sum.half"], apart := false, laid := [("tidewrack/sum.half", laid_tidewrack_sum_half)], narrowed := true }
def GramBackUptoSaid : Prop := gramBackUptoRow.holds Tryd.pinned (OpenSpec.upto gramBackSpec)

/-- 'tidewracklaw03.GramParses', WHERE WHAT IT READS IS OF BULK AT MOST 1048576: true; the input reads as it did. -/
def gramParsesUptoRow : OpenClaim := { program := "yticilepdpobheaadoor", sum := "b2b80df9df448f45cc3ef6c36ac83c5ce00fd0a57826952091afb7d7ab4bf8fd", func := "tidewrack/tidewracklaw03.GramParses", spec := "gramParses", unfollowed := true, recurses := true, named := ["tidewrack/sum.half"], apart := false, laid := [("tidewrack/sum.half", laid_tidewrack_sum_half)], narrowed := true }
def GramParsesUptoSaid : Prop := gramParsesUptoRow.holds Tryd.pinned (OpenSpec.upto gramParsesSpec)

/-- 'tidewracklaw03.GramLongest', WHERE WHAT IT READS IS OF BULK AT MOST 1048576: true; the input reads as it did. -/
def gramLongestUptoRow : OpenClaim := { program := "yticilepdpobheaadoor", sum := "b2b80df9df448f45cc3ef6c36ac83c5ce00fd0a57826952091afb7d7ab4bf8fd", func := "tidewrack/tidewracklaw03.GramLongest", spec := "gramLongest", unfollowed := true, recurses := true, named := ["tidewrack/sum.half"], apart := false, laid := [("tidewrack/sum.half", laid_tidewrack_sum_half)], narrowed := true }
def GramLongestUptoSaid : Prop := gramLongestUptoRow.holds Tryd.pinned (OpenSpec.upto gramLongestSpec)

/-- 'tidewracklaw03.GramApart', WHERE WHAT IT READS IS OF BULK AT MOST 1048576: true; the input reads as it did. -/
def gramApartUptoRow : OpenClaim := { program := "yticilepdpobheaadoor", sum := "b2b80df9df448f45cc3ef6c36ac83c5ce00fd0a57826952091afb7d7ab4bf8fd", func := "tidewrack/tidewracklaw03.GramApart", spec := "gramApart", unfollowed := true, recurses := true, named := ["tidewrack/sum.half"], apart := false, laid := [("tidewrack/sum.half", laid_tidewrack_sum_half)], narrowed := true }
def GramApartUptoSaid : Prop := gramApartUptoRow.holds Tryd.pinned (OpenSpec.upto gramApartSpec)

/-- 'tidewracklaw03.GramTold', WHERE WHAT IT READS IS OF BULK AT MOST 1048576: true; the input reads as it did. -/
def gramToldUptoRow : OpenClaim := { program := "yticilepdpobheaadoor", sum := "b2b80df9df448f45cc3ef6c36ac83c5ce00fd0a57826952091afb7d7ab4bf8fd", func := "tidewrack/tidewracklaw03.GramTold", spec := "gramTold", unfollowed := true, recurses := true, named := ["tidewrack/sum.half"], apart := false, laid := [("tidewrack/sum.half", laid_tidewrack_sum_half)], narrowed := true }
def GramToldUptoSaid : Prop := gramToldUptoRow.holds Tryd.pinned (OpenSpec.upto gramToldSpec)

end Rows
end Go.Proofs.YticilepdpobheaaDoor
