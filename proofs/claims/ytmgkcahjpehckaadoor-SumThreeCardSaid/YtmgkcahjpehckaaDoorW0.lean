/- Walks, printed by an own program: the machine's calls compute the plain functions. -/
import Derived.Test.YtmgkcahjpehckaaDoorX18
import Derived.Test.YtmgkcahjpehckaaDoorD
import Derived.Test.YtmgkcahjpehckaaDoorProg
set_option linter.unusedVariables false
set_option linter.unusedSimpArgs false
namespace Go.Proofs.YtmgkcahjpehckaaDoor
open Go Go.Proofs.XC

def tabU : List (Nat × TypeDesc) := [(5, .int .u8), (9, .string), (23, .slice 5), (24, .int .u32), (27, .slice 9), (41, .array 16 24)]
def tabI : List (Nat × (Nat × Nat × Value)) := [(5, (1, 1, (.int .u8 0))), (9, (1, 16, (.string ⟨#[]⟩))), (24, (1, 4, (.int .u32 0))), (41, (16, 64, (.agg #[(.int .u32 0), (.int .u32 0), (.int .u32 0), (.int .u32 0), (.int .u32 0), (.int .u32 0), (.int .u32 0), (.int .u32 0), (.int .u32 0), (.int .u32 0), (.int .u32 0), (.int .u32 0), (.int .u32 0), (.int .u32 0), (.int .u32 0), (.int .u32 0)])))]
abbrev T : Tab := ⟨tabU, tabI⟩
theorem tab : TabOK Tryd.prog T := by
  refine ⟨?_, ?_⟩
  · simp only [tabU, List.forall_mem_cons]
    exact ⟨Tryd.underlying5, Tryd.underlying9, Tryd.underlying23, Tryd.underlying24, Tryd.underlying27, Tryd.underlying41, by simp⟩
  · simp only [tabI, List.forall_mem_cons]
    exact ⟨by kernel_rfl, by kernel_rfl, by kernel_rfl, by kernel_rfl, by simp⟩
theorem mixed : Tryd.prog.follows .mixedOrders = true := by kernel_rfl
theorem ent_7 : EntersF Tryd.prog 7 := enters_of' Tryd.func7 (by kernel_rfl) rfl
theorem ent_8 : EntersF Tryd.prog 8 := enters_of' Tryd.func8 (by kernel_rfl) rfl
theorem ent_18 : EntersF Tryd.prog 18 := enters_of' Tryd.func18 (by kernel_rfl) rfl
end Go.Proofs.YtmgkcahjpehckaaDoor
