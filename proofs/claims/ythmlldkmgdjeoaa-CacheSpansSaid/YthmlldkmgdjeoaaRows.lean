/-
  No cell of these rows narrows 'for every input' (looked for: loops, veiled, ifaces, maps, wideKeys, modest, calm, conditions, laid).
  DERIVED. THE GIVEN ROWS OF THIS SEAT. 5 by the template 'for every input the law returns true; each argument reads behind the call as it read before'; 0 by the template 'total and deterministic' (their statements: YthmlldkmgdjeoaaTotals.lean).
  GIVEN WITH THE SEED: the statements are not yours to turn. If you find one false, say at which input.
  Laid BY PROGRAM, IN A SANDBOX (cutbox-rows.mjs): the forced cells as the released guide's own fill.sh prints them over the translation 9088bc932278eda1… (all of the seat's roots in one cut). By AI agents, Wed Nov 11 2026. No macro, syntax, notation, axiom, sorry.
-/
import Derived.Test.YthmlldkmgdjeoaaChecked
import GoSem.Claim
import GoSem.ClaimJoined
import GoSem.ClaimMapViews
import Derived.JoinedTies
import Derived.KernelRfl
namespace Go.Proofs.Ythmlldkmgdjeoaa
/- THE CELL 'sum', in the pinned program and in every row, IS THE sha256 OF THE DUMP (.gsa) THAT YthmlldkmgdjeoaaProg.lean LOADS. Nothing in Lean hashes anything: it is a label: what it is worth is what the hold of that sum in a sandbox is worth. -/
noncomputable def Try.pinned : Pinned := { name := "ythmlldkmgdjeoaa", sum := "9088bc932278eda117b1778f1781fdcb6b9d34c8c89444479fc5b32e50b2f96b", checked := Try.checked }
namespace Rows
def none {H : Type} : Left H := { results := [], args := [] }

/-- 'tidewracklaw14.CacheLast': WHATEVER THE INPUT: true; the input reads as it did. -/
def cacheLastSpec : ChangeSpec := { name := "cacheLast", fn := fun _ => fun
  | [d1, d2] => { results := [.lit (.bool true)], args := [d1, d2] }
  | _ => none }
def cacheLastRow : OpenClaim := { program := "ythmlldkmgdjeoaa", sum := "9088bc932278eda117b1778f1781fdcb6b9d34c8c89444479fc5b32e50b2f96b", func := "tidewrack/tidewracklaw14.CacheLast", spec := "cacheLast", unfollowed := true, recurses := true, apart := false }
def CacheLastSaid : Prop := cacheLastRow.holds Try.pinned (OpenSpec.ofChange cacheLastSpec)

/-- ITS FALSE NEIGHBOUR: 'it returns false'. Refute it at one input. -/
def cacheLastWrong : ChangeSpec := { name := "cacheLast", fn := fun _ => fun
  | [d1, d2] => { results := [.lit (.bool false)], args := [d1, d2] }
  | _ => none }
def CacheLastWrongFalsely : Prop := cacheLastRow.holds Try.pinned (OpenSpec.ofChange cacheLastWrong)

/-- 'tidewracklaw14.CacheRoom': WHATEVER THE INPUT: true; the input reads as it did. -/
def cacheRoomSpec : ChangeSpec := { name := "cacheRoom", fn := fun _ => fun
  | [d1, d2] => { results := [.lit (.bool true)], args := [d1, d2] }
  | _ => none }
def cacheRoomRow : OpenClaim := { program := "ythmlldkmgdjeoaa", sum := "9088bc932278eda117b1778f1781fdcb6b9d34c8c89444479fc5b32e50b2f96b", func := "tidewrack/tidewracklaw14.CacheRoom", spec := "cacheRoom", unfollowed := true, recurses := true, apart := false }
def CacheRoomSaid : Prop := cacheRoomRow.holds Try.pinned (OpenSpec.ofChange cacheRoomSpec)

/-- ITS FALSE NEIGHBOUR: 'it returns false'. Refute it at one input. -/
def cacheRoomWrong : ChangeSpec := { name := "cacheRoom", fn := fun _ => fun
  | [d1, d2] => { results := [.lit (.bool false)], args := [d1, d2] }
  | _ => none }
def CacheRoomWrongFalsely : Prop := cacheRoomRow.holds Try.pinned (OpenSpec.ofChange cacheRoomWrong)

/-- 'tidewracklaw14.CacheSpans': WHATEVER THE INPUT: true; the input reads as it did. -/
def cacheSpansSpec : ChangeSpec := { name := "cacheSpans", fn := fun _ => fun
  | [d1, d2] => { results := [.lit (.bool true)], args := [d1, d2] }
  | _ => none }
def cacheSpansRow : OpenClaim := { program := "ythmlldkmgdjeoaa", sum := "9088bc932278eda117b1778f1781fdcb6b9d34c8c89444479fc5b32e50b2f96b", func := "tidewrack/tidewracklaw14.CacheSpans", spec := "cacheSpans", unfollowed := true, recurses := true, apart := false }
def CacheSpansSaid : Prop := cacheSpansRow.holds Try.pinned (OpenSpec.ofChange cacheSpansSpec)

/-- ITS FALSE NEIGHBOUR: 'it returns false'. Refute it at one input. -/
def cacheSpansWrong : ChangeSpec := { name := "cacheSpans", fn := fun _ => fun
  | [d1, d2] => { results := [.lit (.bool false)], args := [d1, d2] }
  | _ => none }
def CacheSpansWrongFalsely : Prop := cacheSpansRow.holds Try.pinned (OpenSpec.ofChange cacheSpansWrong)

/-- 'tidewracklaw14.CachePlays': WHATEVER THE INPUT: true; the input reads as it did. -/
def cachePlaysSpec : ChangeSpec := { name := "cachePlays", fn := fun _ => fun
  | [d1, d2] => { results := [.lit (.bool true)], args := [d1, d2] }
  | _ => none }
def cachePlaysRow : OpenClaim := { program := "ythmlldkmgdjeoaa", sum := "9088bc932278eda117b1778f1781fdcb6b9d34c8c89444479fc5b32e50b2f96b", func := "tidewrack/tidewracklaw14.CachePlays", spec := "cachePlays", unfollowed := true, recurses := true, apart := false }
def CachePlaysSaid : Prop := cachePlaysRow.holds Try.pinned (OpenSpec.ofChange cachePlaysSpec)

/-- ITS FALSE NEIGHBOUR: 'it returns false'. Refute it at one input. -/
def cachePlaysWrong : ChangeSpec := { name := "cachePlays", fn := fun _ => fun
  | [d1, d2] => { results := [.lit (.bool false)], args := [d1, d2] }
  | _ => none }
def CachePlaysWrongFalsely : Prop := cachePlaysRow.holds Try.pinned (OpenSpec.ofChange cachePlaysWrong)

/-- 'tidewracklaw14.CacheClones': WHATEVER THE INPUT: true; the input reads as it did. -/
def cacheClonesSpec : ChangeSpec := { name := "cacheClones", fn := fun _ => fun
  | [d1, d2] => { results := [.lit (.bool true)], args := [d1, d2] }
  | _ => none }
def cacheClonesRow : OpenClaim := { program := "ythmlldkmgdjeoaa", sum := "9088bc932278eda117b1778f1781fdcb6b9d34c8c89444479fc5b32e50b2f96b", func := "tidewrack/tidewracklaw14.CacheClones", spec := "cacheClones", inPlace := ["maps.clone"], unfollowed := true, recurses := true, apart := false }
def CacheClonesSaid : Prop := cacheClonesRow.holds Try.pinned (OpenSpec.ofChange cacheClonesSpec)

/-- ITS FALSE NEIGHBOUR: 'it returns false'. Refute it at one input. -/
def cacheClonesWrong : ChangeSpec := { name := "cacheClones", fn := fun _ => fun
  | [d1, d2] => { results := [.lit (.bool false)], args := [d1, d2] }
  | _ => none }
def CacheClonesWrongFalsely : Prop := cacheClonesRow.holds Try.pinned (OpenSpec.ofChange cacheClonesWrong)

/- THE SECOND FORM. 'bulk': how many values and letters a reading holds, each counted each time it is reached (what is shared counts as often as it is met; a slice's spare places count too). A statement '..UptoSaid' is the law's where the arguments, and the package variables that the reading takes, are together of bulk at most 1048576: NARROWER than '..Said'. Prove '..Said' where nothing that the law and all that it calls make is longer than what came in: it says more and counts as full. Else prove '..UptoSaid'. A law counts once. -/
mutual
def uptoBulk {H : Type} : DataW H → Nat
  | .lit (.string bytes) => bytes.length + 1
  | .lit _ => 1
  | .nil => 1
  | .ptr d => uptoBulk d + 1
  | .slice elems spare => uptoBulkAll elems + uptoBulkAll spare + 1
  | .agg parts => uptoBulkAll parts + 1
  | .iface _ d => uptoBulk d + 1
  | .map entries => uptoBulkEntries entries + 1
  | .held _ => 1
def uptoBulkAll {H : Type} : List (DataW H) → Nat
  | [] => 0
  | d :: r => uptoBulk d + uptoBulkAll r
def uptoBulkEntries {H : Type} : List (Lit × DataW H) → Nat
  | [] => 0
  | x :: r => uptoBulkEntry x + uptoBulkEntries r
def uptoBulkEntry {H : Type} : Lit × DataW H → Nat
  | (.string bytes, d) => bytes.length + uptoBulk d + 1
  | (_, d) => uptoBulk d + 1
 end
def uptoSmall : (H : Type) → List (DataW H) → Bool := fun _ ds => decide (uptoBulkAll ds ≤ 1048576)
def OpenSpec.upto (s : _root_.Go.ChangeSpec) : _root_.Go.OpenSpec := { _root_.Go.OpenSpec.ofChange s with cond := some uptoSmall }

/-- 'tidewracklaw14.CacheLast', WHERE WHAT IT READS IS OF BULK AT MOST 1048576: true; the input reads as it did. -/
def cacheLastUptoRow : OpenClaim := { program := "ythmlldkmgdjeoaa", sum := "9088bc932278eda117b1778f1781fdcb6b9d34c8c89444479fc5b32e50b2f96b", func := "tidewrack/tidewracklaw14.CacheLast", spec := "cacheLast", unfollowed := true, recurses := true, apart := false, narrowed := true }
def CacheLastUptoSaid : Prop := cacheLastUptoRow.holds Try.pinned (OpenSpec.upto cacheLastSpec)

/-- 'tidewracklaw14.CacheRoom', WHERE WHAT IT READS IS OF BULK AT MOST 1048576: true; the input reads as it did. -/
def cacheRoomUptoRow : OpenClaim := { program := "ythmlldkmgdjeoaa", sum := "9088bc932278eda117b1778f1781fdcb6b9d34c8c89444479fc5b32e50b2f96b", func := "tidewrack/tidewracklaw14.CacheRoom", spec := "cacheRoom", unfollowed := true, recurses := true, apart := false, narrowed := true }
def CacheRoomUptoSaid : Prop := cacheRoomUptoRow.holds Try.pinned (OpenSpec.upto cacheRoomSpec)

/-- 'tidewracklaw14.CacheSpans', WHERE WHAT IT READS IS OF BULK AT MOST 1048576: true; the input reads as it did. -/
def cacheSpansUptoRow : OpenClaim := { program := "ythmlldkmgdjeoaa", sum := "9088bc932278eda117b1778f1781fdcb6b9d34c8c89444479fc5b32e50b2f96b", func := "tidewrack/tidewracklaw14.CacheSpans", spec := "cacheSpans", unfollowed := true, recurses := true, apart := false, narrowed := true }
def CacheSpansUptoSaid : Prop := cacheSpansUptoRow.holds Try.pinned (OpenSpec.upto cacheSpansSpec)

/-- 'tidewracklaw14.CachePlays', WHERE WHAT IT READS IS OF BULK AT MOST 1048576: true; the input reads as it did. -/
def cachePlaysUptoRow : OpenClaim := { program := "ythmlldkmgdjeoaa", sum := "9088bc932278eda117b1778f1781fdcb6b9d34c8c89444479fc5b32e50b2f96b", func := "tidewrack/tidewracklaw14.CachePlays", spec := "cachePlays", unfollowed := true, recurses := true, apart := false, narrowed := true }
def CachePlaysUptoSaid : Prop := cachePlaysUptoRow.holds Try.pinned (OpenSpec.upto cachePlaysSpec)

/-- 'tidewracklaw14.CacheClones', WHERE WHAT IT READS IS OF BULK AT MOST 1048576: true; the input reads as it did. -/
def cacheClonesUptoRow : OpenClaim := { program := "ythmlldkmgdjeoaa", sum := "9088bc932278eda117b1778f1781fdcb6b9d34c8c89444479fc5b32e50b2f96b", func := "tidewrack/tidewracklaw14.CacheClones", spec := "cacheClones", inPlace := ["maps.clone"], unfollowed := true, recurses := true, apart := false, narrowed := true }
def CacheClonesUptoSaid : Prop := cacheClonesUptoRow.holds Try.pinned (OpenSpec.upto cacheClonesSpec)

end Rows
end Go.Proofs.Ythmlldkmgdjeoaa
