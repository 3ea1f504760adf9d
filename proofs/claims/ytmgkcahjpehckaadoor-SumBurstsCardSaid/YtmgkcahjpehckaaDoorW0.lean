/- Walks, printed by an own program: the machine's calls compute the plain functions. -/
import Derived.Test.YtmgkcahjpehckaaDoorX17
import Derived.Test.YtmgkcahjpehckaaDoorD
import Derived.Test.YtmgkcahjpehckaaDoorProg
set_option linter.unusedVariables false
set_option linter.unusedSimpArgs false
namespace Go.Proofs.YtmgkcahjpehckaaDoor
open Go Go.Proofs.XC

def tabU : List (Nat × TypeDesc) := [(3, .int .i64), (4, .bool), (5, .int .u8), (9, .string), (23, .slice 5), (24, .int .u32), (27, .slice 9), (41, .array 16 24)]
def tabI : List (Nat × (Nat × Nat × Value)) := [(5, (1, 1, (.int .u8 0))), (9, (1, 16, (.string ⟨#[]⟩))), (24, (1, 4, (.int .u32 0))), (41, (16, 64, (.agg #[(.int .u32 0), (.int .u32 0), (.int .u32 0), (.int .u32 0), (.int .u32 0), (.int .u32 0), (.int .u32 0), (.int .u32 0), (.int .u32 0), (.int .u32 0), (.int .u32 0), (.int .u32 0), (.int .u32 0), (.int .u32 0), (.int .u32 0), (.int .u32 0)])))]
abbrev T : Tab := ⟨tabU, tabI⟩
theorem tab : TabOK Tryd.prog T := by
  refine ⟨?_, ?_⟩
  · simp only [tabU, List.forall_mem_cons]
    exact ⟨Tryd.underlying3, Tryd.underlying4, Tryd.underlying5, Tryd.underlying9, Tryd.underlying23, Tryd.underlying24, Tryd.underlying27, Tryd.underlying41, by simp⟩
  · simp only [tabI, List.forall_mem_cons]
    exact ⟨by kernel_rfl, by kernel_rfl, by kernel_rfl, by kernel_rfl, by simp⟩
theorem mixed : Tryd.prog.follows .mixedOrders = true := by kernel_rfl
theorem ent_7 : EntersF Tryd.prog 7 := enters_of' Tryd.func7 (by kernel_rfl) rfl
theorem ent_8 : EntersF Tryd.prog 8 := enters_of' Tryd.func8 (by kernel_rfl) rfl
theorem ent_9 : EntersF Tryd.prog 9 := enters_of' Tryd.func9 (by kernel_rfl) rfl
theorem ent_10 : EntersF Tryd.prog 10 := enters_of' Tryd.func10 (by kernel_rfl) rfl
theorem ent_11 : EntersF Tryd.prog 11 := enters_of' Tryd.func11 (by kernel_rfl) rfl
theorem ent_12 : EntersF Tryd.prog 12 := enters_of' Tryd.func12 (by kernel_rfl) rfl
theorem ent_13 : EntersF Tryd.prog 13 := enters_of' Tryd.func13 (by kernel_rfl) rfl
theorem ent_14 : EntersF Tryd.prog 14 := enters_of' Tryd.func14 (by kernel_rfl) rfl
theorem ent_15 : EntersF Tryd.prog 15 := enters_of' Tryd.func15 (by kernel_rfl) rfl
theorem ent_16 : EntersF Tryd.prog 16 := enters_of' Tryd.func16 (by kernel_rfl) rfl
theorem ent_17 : EntersF Tryd.prog 17 := enters_of' Tryd.func17 (by kernel_rfl) rfl
theorem ent_18 : EntersF Tryd.prog 18 := enters_of' Tryd.func18 (by kernel_rfl) rfl
theorem ent_19 : EntersF Tryd.prog 19 := enters_of' Tryd.func19 (by kernel_rfl) rfl
end Go.Proofs.YtmgkcahjpehckaaDoor
