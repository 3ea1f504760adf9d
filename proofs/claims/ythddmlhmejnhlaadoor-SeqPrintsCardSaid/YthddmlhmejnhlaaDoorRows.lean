/-
  NARROWER THAN 'FOR EVERY INPUT', by the rows' own cells (each row's printed sentence says how): SeqReads: laid · SeqGround: laid · SeqAnew: laid · SeqBounds: laid · SeqParts: laid · SeqPrints: laid.
  DERIVED. THE GIVEN ROWS OF THIS SEAT. 6 by the template 'for every input the law returns true; each argument reads behind the call as it read before'; 0 by the template 'total and deterministic' (their statements: YthddmlhmejnhlaaDoorTotals.lean).
  GIVEN WITH THE SEED: the statements are not yours to turn. If you find one false, say at which input.
  Laid BY PROGRAM, IN A SANDBOX (cutbox-rows.mjs): the forced cells as the released guide's own fill.sh prints them over the translation fd39fc28b5a74edc… (all of the seat's roots in one cut). By AI agents, Wed Nov 11 2026. No macro, syntax, notation, axiom, sorry.
-/
import Derived.Test.YthddmlhmejnhlaaDoorChecked
import GoSem.Claim
import GoSem.ClaimJoined
import GoSem.ClaimMapViews
import Derived.JoinedTies
import Derived.KernelRfl
namespace Go.Proofs.YthddmlhmejnhlaaDoor
/- THE CELL 'sum', in the pinned program and in every row, IS THE sha256 OF THE DUMP (.gsa) THAT YthddmlhmejnhlaaDoorProg.lean LOADS. Nothing in Lean hashes anything: it is a label: what it is worth is what the hold of that sum in a sandbox is worth. -/
noncomputable def Tryd.pinned : Pinned := { name := "ythddmlhmejnhlaadoor", sum := "fd39fc28b5a74edc673517f8b494488fcf33b58a27f0f4d97402ffccae91e13b", checked := Tryd.checked }
namespace Rows
def none {H : Type} : Left H := { results := [], args := [] }

/- WHAT THE LISTED PACKAGE-LEVEL VARIABLES READ AS WHEN THE CALL BEGINS. Each datum BY PROGRAM (the guide's laid-datum.mjs) off the statement by which the dump's own 'gosem.cut.vars' lays the variable. In a bare row this is a premise. The card (YthddmlhmejnhlaaDoorCards.lean) ties it to the program's text. -/
def laid_tidewrack_glyph_leads {H : Type} : DataW H := .agg [.agg [.lit (.int .u8 194), .lit (.int .u8 223), .lit (.int .i64 1), .lit (.int .u8 128), .lit (.int .u8 191)], .agg [.lit (.int .u8 224), .lit (.int .u8 224), .lit (.int .i64 2), .lit (.int .u8 160), .lit (.int .u8 191)], .agg [.lit (.int .u8 225), .lit (.int .u8 236), .lit (.int .i64 2), .lit (.int .u8 128), .lit (.int .u8 191)], .agg [.lit (.int .u8 237), .lit (.int .u8 237), .lit (.int .i64 2), .lit (.int .u8 128), .lit (.int .u8 159)], .agg [.lit (.int .u8 238), .lit (.int .u8 239), .lit (.int .i64 2), .lit (.int .u8 128), .lit (.int .u8 191)], .agg [.lit (.int .u8 240), .lit (.int .u8 240), .lit (.int .i64 3), .lit (.int .u8 144), .lit (.int .u8 191)], .agg [.lit (.int .u8 241), .lit (.int .u8 243), .lit (.int .i64 3), .lit (.int .u8 128), .lit (.int .u8 191)], .agg [.lit (.int .u8 244), .lit (.int .u8 244), .lit (.int .i64 3), .lit (.int .u8 128), .lit (.int .u8 143)]]

/-- 'tidewracklaw07.SeqReads': WHATEVER THE INPUT: true; the input reads as it did. -/
def seqReadsSpec : ChangeSpec := { name := "seqReads", fn := fun _ => fun
  | [d] => { results := [.lit (.bool true)], args := [d] }
  | _ => none }
def seqReadsRow : OpenClaim := { program := "ythddmlhmejnhlaadoor", sum := "fd39fc28b5a74edc673517f8b494488fcf33b58a27f0f4d97402ffccae91e13b", func := "tidewrack/tidewracklaw07.SeqReads", spec := "seqReads", named := ["tidewrack/glyph.leads"], apart := false, laid := [("tidewrack/glyph.leads", laid_tidewrack_glyph_leads)] }
def SeqReadsSaid : Prop := seqReadsRow.holds Tryd.pinned (OpenSpec.ofChange seqReadsSpec)

/-- ITS FALSE NEIGHBOUR: 'it returns false'. Refute it at one input. -/
def seqReadsWrong : ChangeSpec := { name := "seqReads", fn := fun _ => fun
  | [d] => { results := [.lit (.bool false)], args := [d] }
  | _ => none }
def SeqReadsWrongFalsely : Prop := seqReadsRow.holds Tryd.pinned (OpenSpec.ofChange seqReadsWrong)

/-- 'tidewracklaw07.SeqGround': WHATEVER THE INPUT: true; the input reads as it did. -/
def seqGroundSpec : ChangeSpec := { name := "seqGround", fn := fun _ => fun
  | [d] => { results := [.lit (.bool true)], args := [d] }
  | _ => none }
def seqGroundRow : OpenClaim := { program := "ythddmlhmejnhlaadoor", sum := "fd39fc28b5a74edc673517f8b494488fcf33b58a27f0f4d97402ffccae91e13b", func := "tidewrack/tidewracklaw07.SeqGround", spec := "seqGround", named := ["tidewrack/glyph.leads"], apart := false, laid := [("tidewrack/glyph.leads", laid_tidewrack_glyph_leads)] }
def SeqGroundSaid : Prop := seqGroundRow.holds Tryd.pinned (OpenSpec.ofChange seqGroundSpec)

/-- ITS FALSE NEIGHBOUR: 'it returns false'. Refute it at one input. -/
def seqGroundWrong : ChangeSpec := { name := "seqGround", fn := fun _ => fun
  | [d] => { results := [.lit (.bool false)], args := [d] }
  | _ => none }
def SeqGroundWrongFalsely : Prop := seqGroundRow.holds Tryd.pinned (OpenSpec.ofChange seqGroundWrong)

/-- 'tidewracklaw07.SeqAnew': WHATEVER THE INPUT: true; the input reads as it did. -/
def seqAnewSpec : ChangeSpec := { name := "seqAnew", fn := fun _ => fun
  | [d1, d2] => { results := [.lit (.bool true)], args := [d1, d2] }
  | _ => none }
def seqAnewRow : OpenClaim := { program := "ythddmlhmejnhlaadoor", sum := "fd39fc28b5a74edc673517f8b494488fcf33b58a27f0f4d97402ffccae91e13b", func := "tidewrack/tidewracklaw07.SeqAnew", spec := "seqAnew", named := ["tidewrack/glyph.leads"], apart := false, laid := [("tidewrack/glyph.leads", laid_tidewrack_glyph_leads)] }
def SeqAnewSaid : Prop := seqAnewRow.holds Tryd.pinned (OpenSpec.ofChange seqAnewSpec)

/-- ITS FALSE NEIGHBOUR: 'it returns false'. Refute it at one input. -/
def seqAnewWrong : ChangeSpec := { name := "seqAnew", fn := fun _ => fun
  | [d1, d2] => { results := [.lit (.bool false)], args := [d1, d2] }
  | _ => none }
def SeqAnewWrongFalsely : Prop := seqAnewRow.holds Tryd.pinned (OpenSpec.ofChange seqAnewWrong)

/-- 'tidewracklaw07.SeqBounds': WHATEVER THE INPUT: true; the input reads as it did. -/
def seqBoundsSpec : ChangeSpec := { name := "seqBounds", fn := fun _ => fun
  | [d] => { results := [.lit (.bool true)], args := [d] }
  | _ => none }
def seqBoundsRow : OpenClaim := { program := "ythddmlhmejnhlaadoor", sum := "fd39fc28b5a74edc673517f8b494488fcf33b58a27f0f4d97402ffccae91e13b", func := "tidewrack/tidewracklaw07.SeqBounds", spec := "seqBounds", named := ["tidewrack/glyph.leads"], apart := false, laid := [("tidewrack/glyph.leads", laid_tidewrack_glyph_leads)] }
def SeqBoundsSaid : Prop := seqBoundsRow.holds Tryd.pinned (OpenSpec.ofChange seqBoundsSpec)

/-- ITS FALSE NEIGHBOUR: 'it returns false'. Refute it at one input. -/
def seqBoundsWrong : ChangeSpec := { name := "seqBounds", fn := fun _ => fun
  | [d] => { results := [.lit (.bool false)], args := [d] }
  | _ => none }
def SeqBoundsWrongFalsely : Prop := seqBoundsRow.holds Tryd.pinned (OpenSpec.ofChange seqBoundsWrong)

/-- 'tidewracklaw07.SeqParts': WHATEVER THE INPUT: true; the input reads as it did. -/
def seqPartsSpec : ChangeSpec := { name := "seqParts", fn := fun _ => fun
  | [d1, d2] => { results := [.lit (.bool true)], args := [d1, d2] }
  | _ => none }
def seqPartsRow : OpenClaim := { program := "ythddmlhmejnhlaadoor", sum := "fd39fc28b5a74edc673517f8b494488fcf33b58a27f0f4d97402ffccae91e13b", func := "tidewrack/tidewracklaw07.SeqParts", spec := "seqParts", named := ["tidewrack/glyph.leads"], apart := false, laid := [("tidewrack/glyph.leads", laid_tidewrack_glyph_leads)] }
def SeqPartsSaid : Prop := seqPartsRow.holds Tryd.pinned (OpenSpec.ofChange seqPartsSpec)

/-- ITS FALSE NEIGHBOUR: 'it returns false'. Refute it at one input. -/
def seqPartsWrong : ChangeSpec := { name := "seqParts", fn := fun _ => fun
  | [d1, d2] => { results := [.lit (.bool false)], args := [d1, d2] }
  | _ => none }
def SeqPartsWrongFalsely : Prop := seqPartsRow.holds Tryd.pinned (OpenSpec.ofChange seqPartsWrong)

/-- 'tidewracklaw07.SeqPrints': WHATEVER THE INPUT: true; the input reads as it did. -/
def seqPrintsSpec : ChangeSpec := { name := "seqPrints", fn := fun _ => fun
  | [d1, d2] => { results := [.lit (.bool true)], args := [d1, d2] }
  | _ => none }
def seqPrintsRow : OpenClaim := { program := "ythddmlhmejnhlaadoor", sum := "fd39fc28b5a74edc673517f8b494488fcf33b58a27f0f4d97402ffccae91e13b", func := "tidewrack/tidewracklaw07.SeqPrints", spec := "seqPrints", named := ["tidewrack/glyph.leads"], apart := false, laid := [("tidewrack/glyph.leads", laid_tidewrack_glyph_leads)] }
def SeqPrintsSaid : Prop := seqPrintsRow.holds Tryd.pinned (OpenSpec.ofChange seqPrintsSpec)

/-- ITS FALSE NEIGHBOUR: 'it returns false'. Refute it at one input. -/
def seqPrintsWrong : ChangeSpec := { name := "seqPrints", fn := fun _ => fun
  | [d1, d2] => { results := [.lit (.bool false)], args := [d1, d2] }
  | _ => none }
def SeqPrintsWrongFalsely : Prop := seqPrintsRow.holds Tryd.pinned (OpenSpec.ofChange seqPrintsWrong)

/- THE SECOND FORM. 'bulk': how many values and letters a reading holds, each counted each time it is reached (what is shared counts as often as it is met; a slice's spare places count too). A statement '..UptoSaid' is the law's where the arguments, and the package variables that the reading takes, are together of bulk at most 1048576: NARROWER than '..Said'. Prove '..Said' where nothing that the law and all that it calls make is longer than what came in: it says more and counts as full. Else prove '..UptoSaid'. A law counts once. -/
mutual
def uptoBulk {H : Type} : DataW H → Nat
  | .lit (.string bytes) => bytes.length + 1
  | .lit _ => 1
  | .nil => 1
  | .ptr d => uptoBulk d + 1
  | .slice elems spare => uptoBulkAll elems + uptoBulkAll spare + 1
  | .agg parts => uptoBulkAll parts + 1
  | .iface _ d => uptoBulk d + 1
  | .map entries => uptoBulkEntries entries + 1
  | .held _ => 1
def uptoBulkAll {H : Type} : List (DataW H) → Nat
  | [] => 0
  | d :: r => uptoBulk d + uptoBulkAll r
def uptoBulkEntries {H : Type} : List (Lit × DataW H) → Nat
  | [] => 0
  | x :: r => uptoBulkEntry x + uptoBulkEntries r
def uptoBulkEntry {H : Type} : Lit × DataW H → Nat
  | (.string bytes, d) => bytes.length + uptoBulk d + 1
  | (_, d) => uptoBulk d + 1
 end
def uptoSmall : (H : Type) → List (DataW H) → Bool := fun _ ds => decide (uptoBulkAll ds ≤ 1048576)
def OpenSpec.upto (s : _root_.Go.ChangeSpec) : _root_.Go.OpenSpec := { _root_.Go.OpenSpec.ofChange s with cond := some uptoSmall }

/-- 'tidewracklaw07.SeqReads', WHERE WHAT IT READS IS OF BULK AT MOST 1048576: true; the input reads as it did. -/
def seqReadsUptoRow : OpenClaim := { program := "ythddmlhmejnhlaadoor", sum := "fd39fc28b5a74edc673517f8b494488fcf33b58a27f0f4d97402ffccae91e13b", func := "tidewrack/tidewracklaw07.SeqReads", spec := "seqReads", named := ["tidewrack/glyph.leads"], apart := false, laid := [("tidewrack/glyph.leads", laid_tidewrack_glyph_leads)], narrowed := true }
def SeqReadsUptoSaid : Prop := seqReadsUptoRow.holds Tryd.pinned (OpenSpec.upto seqReadsSpec)

/-- 'tidewracklaw07.SeqGround', WHERE WHAT IT READS IS OF BULK AT MOST 1048576: true; the input reads as it did. -/
def seqGroundUptoRow : OpenClaim := { program := "ythddmlhmejnhlaadoor", sum := "fd39fc28b5a74edc673517f8b494488fcf33b58a27f0f4d97402ffccae91e13b", func := "tidewrack/tidewracklaw07.SeqGround", spec := "seqGround", named := ["tidewrack/glyph.leads"], apart := false, laid := [("tidewrack/glyph.leads", laid_tidewrack_glyph_leads)], narrowed := true }
def SeqGroundUptoSaid : Prop := seqGroundUptoRow.holds Tryd.pinned (OpenSpec.upto seqGroundSpec)

/-- 'tidewracklaw07.SeqAnew', WHERE WHAT IT READS IS OF BULK AT MOST 1048576: true; the input reads as it did. -/
def seqAnewUptoRow : OpenClaim := { program := "ythddmlhmejnhlaadoor", sum := "fd39fc28b5a74edc673517f8b494488fcf33b58a27f0f4d97402ffccae91e13b", func := "tidewrack/tidewracklaw07.SeqAnew", spec := "seqAnew", named := ["tidewrack/glyph.leads"], apart := false, laid := [("tidewrack/glyph.leads", laid_tidewrack_glyph_leads)], narrowed := true }
def SeqAnewUptoSaid : Prop := seqAnewUptoRow.holds Tryd.pinned (OpenSpec.upto seqAnewSpec)

/-- 'tidewracklaw07.SeqBounds', WHERE WHAT IT READS IS OF BULK AT MOST 1048576: true; the input reads as it did. -/
def seqBoundsUptoRow : OpenClaim := { program := "ythddmlhmejnhlaadoor", sum := "fd39fc28b5a74edc673517f8b494488fcf33b58a27f0f4d97402ffccae91e13b", func := "tidewrack/tidewracklaw07.SeqBounds", spec := "seqBounds", named := ["tidewrack/glyph.leads"], apart := false, laid := [("tidewrack/glyph.leads", laid_tidewrack_glyph_leads)], narrowed := true }
def SeqBoundsUptoSaid : Prop := seqBoundsUptoRow.holds Tryd.pinned (OpenSpec.upto seqBoundsSpec)

/-- 'tidewracklaw07.SeqParts', WHERE WHAT IT READS IS OF BULK AT MOST 1048576: true; the input reads as it did. -/
def seqPartsUptoRow : OpenClaim := { program := "ythddmlhmejnhlaadoor", sum := "fd39fc28b5a74edc673517f8b494488fcf33b58a27f0f4d97402ffccae91e13b", func := "tidewrack/tidewracklaw07.SeqParts", spec := "seqParts", named := ["tidewrack/glyph.leads"], apart := false, laid := [("tidewrack/glyph.leads", laid_tidewrack_glyph_leads)], narrowed := true }
def SeqPartsUptoSaid : Prop := seqPartsUptoRow.holds Tryd.pinned (OpenSpec.upto seqPartsSpec)

/-- 'tidewracklaw07.SeqPrints', WHERE WHAT IT READS IS OF BULK AT MOST 1048576: true; the input reads as it did. -/
def seqPrintsUptoRow : OpenClaim := { program := "ythddmlhmejnhlaadoor", sum := "fd39fc28b5a74edc673517f8b494488fcf33b58a27f0f4d97402ffccae91e13b", func := "tidewrack/tidewracklaw07.SeqPrints", spec := "seqPrints", named := ["tidewrack/glyph.leads"], apart := false, laid := [("tidewrack/glyph.leads", laid_tidewrack_glyph_leads)], narrowed := true }
def SeqPrintsUptoSaid : Prop := seqPrintsUptoRow.holds Tryd.pinned (OpenSpec.upto seqPrintsSpec)

end Rows
end Go.Proofs.YthddmlhmejnhlaaDoor
