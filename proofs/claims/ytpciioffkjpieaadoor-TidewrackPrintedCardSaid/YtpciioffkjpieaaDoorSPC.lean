/- Plain laws: what the plain functions answer, with no program in sight. -/
import Derived.Test.YtpciioffkjpieaaDoorSPB
set_option linter.unusedVariables false
set_option linter.unusedSimpArgs false
namespace Go.Proofs.YtpciioffkjpieaaDoor.Pure
open Go Go.Proofs.XC Go.Proofs.YtpciioffkjpieaaDoor

theorem need0 (b : Int) : (leadOf b).1.need = 0 ↔ (leadOf b).2 = false := by unfold leadOf; grind (splits := 40)
theorem next_Z (c : Int) : nextF Z c = beginF c := by unfold nextF; simp
def Good (B : List Int) (d : T44) (acc : List Int) (i : Nat) (R : Option (List Int × Int)) : Prop :=
  ∃ left, R = some (acc ++ (dec d (B.drop i)).2, left) ∧ 0 ≤ left ∧ (left > 0 ↔ (dec d (B.drop i)).1.Need > 0)
end Go.Proofs.YtpciioffkjpieaaDoor.Pure
