/-
  NARROWER THAN 'FOR EVERY INPUT', by the rows' own cells (each row's printed sentence says how): GlyphDecodes: laid · GlyphParts: laid · GlyphBack: laid · GlyphHeals: laid · GlyphValid: laid.
  DERIVED. THE GIVEN ROWS OF THIS SEAT. 5 by the template 'for every input the law returns true; each argument reads behind the call as it read before'; 0 by the template 'total and deterministic' (their statements: YtaojnfjidbppjaaDoorTotals.lean).
  GIVEN WITH THE SEED: the statements are not yours to turn. If you find one false, say at which input.
  Laid BY PROGRAM, IN A SANDBOX (cutbox-rows.mjs): the forced cells as the released guide's own fill.sh prints them over the translation 6e52b59949285567… (all of the seat's roots in one cut). By AI agents, Wed Nov 11 2026. No macro, syntax, notation, axiom, sorry.
-/
import Derived.Test.YtaojnfjidbppjaaDoorChecked
import GoSem.Claim
import GoSem.ClaimJoined
import GoSem.ClaimMapViews
import Derived.JoinedTies
import Derived.KernelRfl
namespace Go.Proofs.YtaojnfjidbppjaaDoor
/- THE CELL 'sum', in the pinned program and in every row, IS THE sha256 OF THE DUMP (.gsa) THAT YtaojnfjidbppjaaDoorProg.lean LOADS. Nothing in Lean hashes anything: it is a label: what it is worth is what the hold of that sum in a sandbox is worth. -/
noncomputable def Tryd.pinned : Pinned := { name := "ytaojnfjidbppjaadoor", sum := "6e52b59949285567036ed03e66d35ddbec360502be85de34d7b9c95638559b98", checked := Tryd.checked }
namespace Rows
def none {H : Type} : Left H := { results := [], args := [] }

/- WHAT THE LISTED PACKAGE-LEVEL VARIABLES READ AS WHEN THE CALL BEGINS. Each datum BY PROGRAM (the guide's laid-datum.mjs) off the statement by which the dump's own 'gosem.cut.vars' lays the variable. In a bare row this is a premise. The card (YtaojnfjidbppjaaDoorCards.lean) ties it to the program's text. -/
def laid_tidewrack_glyph_leads {H : Type} : DataW H := .agg [.agg [.lit (.int .u8 194), .lit (.int .u8 223), .lit (.int .i64 1), .lit (.int .u8 128), .lit (.int .u8 191)], .agg [.lit (.int .u8 224), .lit (.int .u8 224), .lit (.int .i64 2), .lit (.int .u8 160), .lit (.int .u8 191)], .agg [.lit (.int .u8 225), .lit (.int .u8 236), .lit (.int .i64 2), .lit (.int .u8 128), .lit (.int .u8 191)], .agg [.lit (.int .u8 237), .lit (.int .u8 237), .lit (.int .i64 2), .lit (.int .u8 128), .lit (.int .u8 159)], .agg [.lit (.int .u8 238), .lit (.int .u8 239), .lit (.int .i64 2), .lit (.int .u8 128), .lit (.int .u8 191)], .agg [.lit (.int .u8 240), .lit (.int .u8 240), .lit (.int .i64 3), .lit (.int .u8 144), .lit (.int .u8 191)], .agg [.lit (.int .u8 241), .lit (.int .u8 243), .lit (.int .i64 3), .lit (.int .u8 128), .lit (.int .u8 191)], .agg [.lit (.int .u8 244), .lit (.int .u8 244), .lit (.int .i64 3), .lit (.int .u8 128), .lit (.int .u8 143)]]

/-- 'tidewracklaw05.GlyphDecodes': WHATEVER THE INPUT: true; the input reads as it did. -/
def glyphDecodesSpec : ChangeSpec := { name := "glyphDecodes", fn := fun _ => fun
  | [d] => { results := [.lit (.bool true)], args := [d] }
  | _ => none }
def glyphDecodesRow : OpenClaim := { program := "ytaojnfjidbppjaadoor", sum := "6e52b59949285567036ed03e66d35ddbec360502be85de34d7b9c95638559b98", func := "tidewrack/tidewracklaw05.GlyphDecodes", spec := "glyphDecodes", named := ["tidewrack/glyph.leads"], apart := false, laid := [("tidewrack/glyph.leads", laid_tidewrack_glyph_leads)] }
def GlyphDecodesSaid : Prop := glyphDecodesRow.holds Tryd.pinned (OpenSpec.ofChange glyphDecodesSpec)

/-- ITS FALSE NEIGHBOUR: 'it returns false'. Refute it at one input. -/
def glyphDecodesWrong : ChangeSpec := { name := "glyphDecodes", fn := fun _ => fun
  | [d] => { results := [.lit (.bool false)], args := [d] }
  | _ => none }
def GlyphDecodesWrongFalsely : Prop := glyphDecodesRow.holds Tryd.pinned (OpenSpec.ofChange glyphDecodesWrong)

/-- 'tidewracklaw05.GlyphParts': WHATEVER THE INPUT: true; the input reads as it did. -/
def glyphPartsSpec : ChangeSpec := { name := "glyphParts", fn := fun _ => fun
  | [d1, d2] => { results := [.lit (.bool true)], args := [d1, d2] }
  | _ => none }
def glyphPartsRow : OpenClaim := { program := "ytaojnfjidbppjaadoor", sum := "6e52b59949285567036ed03e66d35ddbec360502be85de34d7b9c95638559b98", func := "tidewrack/tidewracklaw05.GlyphParts", spec := "glyphParts", named := ["tidewrack/glyph.leads"], apart := false, laid := [("tidewrack/glyph.leads", laid_tidewrack_glyph_leads)] }
def GlyphPartsSaid : Prop := glyphPartsRow.holds Tryd.pinned (OpenSpec.ofChange glyphPartsSpec)

/-- ITS FALSE NEIGHBOUR: 'it returns false'. Refute it at one input. -/
def glyphPartsWrong : ChangeSpec := { name := "glyphParts", fn := fun _ => fun
  | [d1, d2] => { results := [.lit (.bool false)], args := [d1, d2] }
  | _ => none }
def GlyphPartsWrongFalsely : Prop := glyphPartsRow.holds Tryd.pinned (OpenSpec.ofChange glyphPartsWrong)

/-- 'tidewracklaw05.GlyphBack': WHATEVER THE INPUT: true; the input reads as it did. -/
def glyphBackSpec : ChangeSpec := { name := "glyphBack", fn := fun _ => fun
  | [d] => { results := [.lit (.bool true)], args := [d] }
  | _ => none }
def glyphBackRow : OpenClaim := { program := "ytaojnfjidbppjaadoor", sum := "6e52b59949285567036ed03e66d35ddbec360502be85de34d7b9c95638559b98", func := "tidewrack/tidewracklaw05.GlyphBack", spec := "glyphBack", named := ["tidewrack/glyph.leads"], apart := false, laid := [("tidewrack/glyph.leads", laid_tidewrack_glyph_leads)] }
def GlyphBackSaid : Prop := glyphBackRow.holds Tryd.pinned (OpenSpec.ofChange glyphBackSpec)

/-- ITS FALSE NEIGHBOUR: 'it returns false'. Refute it at one input. -/
def glyphBackWrong : ChangeSpec := { name := "glyphBack", fn := fun _ => fun
  | [d] => { results := [.lit (.bool false)], args := [d] }
  | _ => none }
def GlyphBackWrongFalsely : Prop := glyphBackRow.holds Tryd.pinned (OpenSpec.ofChange glyphBackWrong)

/-- 'tidewracklaw05.GlyphHeals': WHATEVER THE INPUT: true; the input reads as it did. -/
def glyphHealsSpec : ChangeSpec := { name := "glyphHeals", fn := fun _ => fun
  | [d1, d2] => { results := [.lit (.bool true)], args := [d1, d2] }
  | _ => none }
def glyphHealsRow : OpenClaim := { program := "ytaojnfjidbppjaadoor", sum := "6e52b59949285567036ed03e66d35ddbec360502be85de34d7b9c95638559b98", func := "tidewrack/tidewracklaw05.GlyphHeals", spec := "glyphHeals", named := ["tidewrack/glyph.leads"], apart := false, laid := [("tidewrack/glyph.leads", laid_tidewrack_glyph_leads)] }
def GlyphHealsSaid : Prop := glyphHealsRow.holds Tryd.pinned (OpenSpec.ofChange glyphHealsSpec)

/-- ITS FALSE NEIGHBOUR: 'it returns false'. Refute it at one input. -/
def glyphHealsWrong : ChangeSpec := { name := "glyphHeals", fn := fun _ => fun
  | [d1, d2] => { results := [.lit (.bool false)], args := [d1, d2] }
  | _ => none }
def GlyphHealsWrongFalsely : Prop := glyphHealsRow.holds Tryd.pinned (OpenSpec.ofChange glyphHealsWrong)

/-- 'tidewracklaw05.GlyphValid': WHATEVER THE INPUT: true; the input reads as it did. -/
def glyphValidSpec : ChangeSpec := { name := "glyphValid", fn := fun _ => fun
  | [d] => { results := [.lit (.bool true)], args := [d] }
  | _ => none }
def glyphValidRow : OpenClaim := { program := "ytaojnfjidbppjaadoor", sum := "6e52b59949285567036ed03e66d35ddbec360502be85de34d7b9c95638559b98", func := "tidewrack/tidewracklaw05.GlyphValid", spec := "glyphValid", named := ["tidewrack/glyph.leads"], apart := false, laid := [("tidewrack/glyph.leads", laid_tidewrack_glyph_leads)] }
def GlyphValidSaid : Prop := glyphValidRow.holds Tryd.pinned (OpenSpec.ofChange glyphValidSpec)

/-- ITS FALSE NEIGHBOUR: 'it returns false'. Refute it at one input. -/
def glyphValidWrong : ChangeSpec := { name := "glyphValid", fn := fun _ => fun
  | [d] => { results := [.lit (.bool false)], args := [d] }
  | _ => none }
def GlyphValidWrongFalsely : Prop := glyphValidRow.holds Tryd.pinned (OpenSpec.ofChange glyphValidWrong)

/- THE SECOND FORM. 'bulk': how many values and letters a reading holds, each counted each time it is reached (what is shared counts as often as it is met; a slice's spare places count too). A statement '..UptoSaid' is the law's where the arguments, and the package variables that the reading takes, are together of bulk at most 1048576: NARROWER than '..Said'. Prove '..Said' where nothing that the law and all that it calls make is longer than what came in: it says more and counts as full. Else prove '..UptoSaid'. A law counts once. -/
mutual
def uptoBulk {H : Type} : DataW H → Nat
  | .lit (.string bytes) => bytes.length + 1
  | .lit _ => 1
  | .nil => 1
  | .ptr d => uptoBulk d + 1
  | .slice elems spare => uptoBulkAll elems + uptoBulkAll spare + 1
  | .agg parts => uptoBulkAll parts + 1
  | .iface _ d => uptoBulk d + 1
  | .map entries => uptoBulkEntries entries + 1
  | .held _ => 1
def uptoBulkAll {H : Type} : List (DataW H) → Nat
  | [] => 0
  | d :: r => uptoBulk d + uptoBulkAll r
def uptoBulkEntries {H : Type} : List (Lit × DataW H) → Nat
  | [] => 0
  | x :: r => uptoBulkEntry x + uptoBulkEntries r
def uptoBulkEntry {H : Type} : Lit × DataW H → Nat
  | (.string bytes, d) => bytes.length + uptoBulk d + 1
  | (_, d) => uptoBulk d + 1
 end
def uptoSmall : (H : Type) → List (DataW H) → Bool := fun _ ds => decide (uptoBulkAll ds ≤ 1048576)
def OpenSpec.upto (s : _root_.Go.ChangeSpec) : _root_.Go.OpenSpec := { _root_.Go.OpenSpec.ofChange s with cond := some uptoSmall }

/-- 'tidewracklaw05.GlyphDecodes', WHERE WHAT IT READS IS OF BULK AT MOST 1048576: true; the input reads as it did. -/
def glyphDecodesUptoRow : OpenClaim := { program := "ytaojnfjidbppjaadoor", sum := "6e52b59949285567036ed03e66d35ddbec360502be85de34d7b9c95638559b98", func := "tidewrack/tidewracklaw05.GlyphDecodes", spec := "glyphDecodes", named := ["tidewrack/glyph.leads"], apart := false, laid := [("tidewrack/glyph.leads", laid_tidewrack_glyph_leads)], narrowed := true }
def GlyphDecodesUptoSaid : Prop := glyphDecodesUptoRow.holds Tryd.pinned (OpenSpec.upto glyphDecodesSpec)

/-- 'tidewracklaw05.GlyphParts', WHERE WHAT IT READS IS OF BULK AT MOST 1048576: true; the input reads as it did. -/
def glyphPartsUptoRow : OpenClaim := { program := "ytaojnfjidbppjaadoor", sum := "6e52b59949285567036ed03e66d35ddbec360502be85de34d7b9c95638559b98", func := "tidewrack/tidewracklaw05.GlyphParts", spec := "glyphParts", named := ["tidewrack/glyph.leads"], apart := false, laid := [("tidewrack/glyph.leads", laid_tidewrack_glyph_leads)], narrowed := true }
def GlyphPartsUptoSaid : Prop := glyphPartsUptoRow.holds Tryd.pinned (OpenSpec.upto glyphPartsSpec)

/-- 'tidewracklaw05.GlyphBack', WHERE WHAT IT READS IS OF BULK AT MOST 1048576: true; the input reads as it did. -/
def glyphBackUptoRow : OpenClaim := { program := "ytaojnfjidbppjaadoor", sum := "6e52b59949285567036ed03e66d35ddbec360502be85de34d7b9c95638559b98", func := "tidewrack/tidewracklaw05.GlyphBack", spec := "glyphBack", named := ["tidewrack/glyph.leads"], apart := false, laid := [("tidewrack/glyph.leads", laid_tidewrack_glyph_leads)], narrowed := true }
def GlyphBackUptoSaid : Prop := glyphBackUptoRow.holds Tryd.pinned (OpenSpec.upto glyphBackSpec)

/-- 'tidewracklaw05.GlyphHeals', WHERE WHAT IT READS IS OF BULK AT MOST 1048576: true; the input reads as it did. -/
def glyphHealsUptoRow : OpenClaim := { program := "ytaojnfjidbppjaadoor", sum := "6e52b59949285567036ed03e66d35ddbec360502be85de34d7b9c95638559b98", func := "tidewrack/tidewracklaw05.GlyphHeals", spec := "glyphHeals", named := ["tidewrack/glyph.leads"], apart := false, laid := [("tidewrack/glyph.leads", laid_tidewrack_glyph_leads)], narrowed := true }
def GlyphHealsUptoSaid : Prop := glyphHealsUptoRow.holds Tryd.pinned (OpenSpec.upto glyphHealsSpec)

/-- 'tidewracklaw05.GlyphValid', WHERE WHAT IT READS IS OF BULK AT MOST 1048576: true; the input reads as it did. -/
def glyphValidUptoRow : OpenClaim := { program := "ytaojnfjidbppjaadoor", sum := "6e52b59949285567036ed03e66d35ddbec360502be85de34d7b9c95638559b98", func := "tidewrack/tidewracklaw05.GlyphValid", spec := "glyphValid", named := ["tidewrack/glyph.leads"], apart := false, laid := [("tidewrack/glyph.leads", laid_tidewrack_glyph_leads)], narrowed := true }
def GlyphValidUptoSaid : Prop := glyphValidUptoRow.holds Tryd.pinned (OpenSpec.upto glyphValidSpec)

end Rows
end Go.Proofs.YtaojnfjidbppjaaDoor
