/- Walks, printed by an own program: the machine's calls compute the plain functions. -/
import Derived.Test.YtaojnfjidbppjaaDoorX15
import Derived.Test.YtaojnfjidbppjaaDoorD
import Derived.Test.YtaojnfjidbppjaaDoorProg
set_option linter.unusedVariables false
set_option linter.unusedSimpArgs false
namespace Go.Proofs.YtaojnfjidbppjaaDoor
open Go Go.Proofs.XC
def ET47 : Enc T47 := ⟨5, fun x => [.int .u8 x.first, .int .u8 x.last, .int .i64 x.need, .int .u8 x.low, .int .u8 x.high], fun _ => rfl, fun _ => rfl⟩
def ET24 : Enc T24 := ⟨3, fun x => [.int .u8 x.Lead, .int .i32 x.Rune, .int .i64 x.Need], fun _ => rfl, fun _ => rfl⟩
def tabU : List (Nat × TypeDesc) := [(3, .int .i64), (4, .bool), (5, .int .u8), (9, .string), (21, .int .i32), (25, .struct #[⟨ "Lead", 5, 0, false, "", "", 0⟩, ⟨ "Rune", 21, 1, false, "", "", 4⟩, ⟨ "Need", 3, 2, false, "", "", 8⟩]), (26, .slice 21), (29, .slice 3), (46, .slice 5), (48, .struct #[⟨ "first", 5, 0, false, "", "tidewrack/glyph", 0⟩, ⟨ "last", 5, 1, false, "", "tidewrack/glyph", 1⟩, ⟨ "need", 3, 2, false, "", "tidewrack/glyph", 8⟩, ⟨ "low", 5, 3, false, "", "tidewrack/glyph", 16⟩, ⟨ "high", 5, 4, false, "", "tidewrack/glyph", 17⟩]), (51, .array 8 48)]
def tabI : List (Nat × (Nat × Nat × Value)) := [(3, (1, 8, (.int .i64 0))), (5, (1, 1, (.int .u8 0))), (21, (1, 4, (.int .i32 0))), (25, (3, 16, (.agg #[(.int .u8 0), (.int .i32 0), (.int .i64 0)]))), (48, (5, 24, (.agg #[(.int .u8 0), (.int .u8 0), (.int .i64 0), (.int .u8 0), (.int .u8 0)]))), (51, (40, 192, (.agg #[(.int .u8 0), (.int .u8 0), (.int .i64 0), (.int .u8 0), (.int .u8 0), (.int .u8 0), (.int .u8 0), (.int .i64 0), (.int .u8 0), (.int .u8 0), (.int .u8 0), (.int .u8 0), (.int .i64 0), (.int .u8 0), (.int .u8 0), (.int .u8 0), (.int .u8 0), (.int .i64 0), (.int .u8 0), (.int .u8 0), (.int .u8 0), (.int .u8 0), (.int .i64 0), (.int .u8 0), (.int .u8 0), (.int .u8 0), (.int .u8 0), (.int .i64 0), (.int .u8 0), (.int .u8 0), (.int .u8 0), (.int .u8 0), (.int .i64 0), (.int .u8 0), (.int .u8 0), (.int .u8 0), (.int .u8 0), (.int .i64 0), (.int .u8 0), (.int .u8 0)])))]
abbrev T : Tab := ⟨tabU, tabI⟩
theorem tab : TabOK Tryd.prog T := by
  refine ⟨?_, ?_⟩
  · simp only [tabU, List.forall_mem_cons]
    exact ⟨Tryd.underlying3, Tryd.underlying4, Tryd.underlying5, Tryd.underlying9, Tryd.underlying21, Tryd.underlying25, Tryd.underlying26, Tryd.underlying29, Tryd.underlying46, Tryd.underlying48, Tryd.underlying51, by simp⟩
  · simp only [tabI, List.forall_mem_cons]
    exact ⟨by kernel_rfl, by kernel_rfl, by kernel_rfl, by kernel_rfl, by kernel_rfl, by kernel_rfl, by simp⟩
theorem stood : ∀ t ∈ [25], Tryd.prog.stoodInHeld t = false ∧ Tryd.prog.eqGuardType Tryd.prog.depth t = false := by
  simp only [List.forall_mem_cons]
  exact ⟨⟨by kernel_rfl, by kernel_rfl⟩, by simp⟩
theorem mixed : Tryd.prog.follows .mixedOrders = true := by kernel_rfl
theorem ent_8 : EntersF Tryd.prog 8 := enters_of' Tryd.func8 (by kernel_rfl) rfl
theorem ent_9 : EntersF Tryd.prog 9 := enters_of' Tryd.func9 (by kernel_rfl) rfl
theorem ent_10 : EntersF Tryd.prog 10 := enters_of' Tryd.func10 (by kernel_rfl) rfl
theorem ent_11 : EntersF Tryd.prog 11 := enters_of' Tryd.func11 (by kernel_rfl) rfl
theorem ent_12 : EntersF Tryd.prog 12 := enters_of' Tryd.func12 (by kernel_rfl) rfl
theorem ent_13 : EntersF Tryd.prog 13 := enters_of' Tryd.func13 (by kernel_rfl) rfl
theorem ent_14 : EntersF Tryd.prog 14 := enters_of' Tryd.func14 (by kernel_rfl) rfl
theorem ent_15 : EntersF Tryd.prog 15 := enters_of' Tryd.func15 (by kernel_rfl) rfl
theorem ent_16 : EntersF Tryd.prog 16 := enters_of' Tryd.func16 (by kernel_rfl) rfl
theorem ent_17 : EntersF Tryd.prog 17 := enters_of' Tryd.func17 (by kernel_rfl) rfl
theorem ent_18 : EntersF Tryd.prog 18 := enters_of' Tryd.func18 (by kernel_rfl) rfl
theorem ent_19 : EntersF Tryd.prog 19 := enters_of' Tryd.func19 (by kernel_rfl) rfl
theorem ent_20 : EntersF Tryd.prog 20 := enters_of' Tryd.func20 (by kernel_rfl) rfl
theorem ent_21 : EntersF Tryd.prog 21 := enters_of' Tryd.func21 (by kernel_rfl) rfl
end Go.Proofs.YtaojnfjidbppjaaDoor
