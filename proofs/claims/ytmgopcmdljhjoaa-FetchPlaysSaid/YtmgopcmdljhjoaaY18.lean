/- Words of an own calculus over the model: how a call's frame, rows and boxes go through its operations. -/
import Derived.Test.YtmgopcmdljhjoaaY17
set_option linter.unusedSimpArgs false
set_option linter.unusedVariables false
namespace Go.Proofs.XC
open Go
theorem Kn.pick {n : Nat} {ds : List Deferred} {a : Act} {e : Env} (h : KnD n ds a e) {ks : List Nat} {e' : Env} (hp : XC.pick e ks = some e') : KnD n ds a e' := KnD.pick h hp
theorem Kn.re {n : Nat} {ds : List Deferred} {a : Act} {e : Env} (h : KnD n ds a e) (ks : List Nat) {e1 e2 : Env} (hp : XC.pick e ks = some e1) (he : e1 = e2) : KnD n ds a e2 := KnD.re h ks hp he
section
variable {ρ : Option Nat} {ds : List Deferred} {P : Program} {Q : Exit → Act → World → Prop} {S : World → Prop}
/-- A region that draws, its states named. -/
theorem xd_abs {ol : List Oper} {k : Nat} {ls : Array Bool} {a : Act} {w : World} (h : ∀ G : Nat → Array Bool → Act → World → Prop, (G = fun k ls a w => wpD ρ P ol.toArray Q S k ls a w) → G k ls a w) : wpD ρ P ol.toArray Q S k ls a w := h _ rfl
theorem xd_to {ol : List Oper} {k : Nat} {ls ls' : Array Bool} {a : Act} {w : World} {G : Nat → Array Bool → Act → World → Prop} (hG : G = fun k ls a w => wpD ρ P ol.toArray Q S k ls a w) (hl : ls = ls') (h : G k ls' a w) : wpD ρ P ol.toArray Q S k ls a w := by
  subst hl; subst hG; exact h
theorem xd_of {ol : List Oper} {k : Nat} {ls : Array Bool} {a : Act} {w : World} {G : Nat → Array Bool → Act → World → Prop} (hG : G = fun k ls a w => wpD ρ P ol.toArray Q S k ls a w) (h : wpD ρ P ol.toArray Q S k ls a w) : G k ls a w := by
  subst hG; exact h
end
end Go.Proofs.XC
namespace Go.Proofs.XC
def mnI (x y : Int) : Int := if y < x then y else x
def mxI (x y : Int) : Int := if y > x then y else x
end Go.Proofs.XC
