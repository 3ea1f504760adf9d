/- Words of an own calculus over the model: how a call's frame, rows and boxes go through its operations. -/
import Derived.Test.YtmgopcmdljhjoaaY27
import Derived.Scope
set_option linter.unusedSimpArgs false
set_option linter.unusedVariables false
namespace Go.Proofs.XC
open Go

section
variable {P : Program} {a : Act} {w : World} {Q : Exit → Act → World → Prop} {c : Code}
theorem x_scope (h : Code.wpIn (WF none) 0 P c (Exit.noGoto Q) a w) : Code.wpIn (WF none) 0 P (.scope c) Q a w := wpIn_wide.2 (wp_scope_straight (wpIn_wide.1 h))
theorem sc_n (h : Q .normal a w) : Exit.noGoto Q .normal a w := h
theorem sc_r (h : Q .ret a w) : Exit.noGoto Q .ret a w := h
theorem sc_x {i : Nat} (h : Q (.exit i) a w) : Exit.noGoto Q (.exit i) a w := h
theorem np_sc (h : NP Q) : NP (Exit.noGoto Q) := h
end
end Go.Proofs.XC
