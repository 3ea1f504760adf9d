/- Walks, printed by an own program: the machine's calls compute the plain functions. -/
import Derived.Test.YteghllmaknenlaaDoorY18
import Derived.Test.YteghllmaknenlaaDoorD
import Derived.Test.YteghllmaknenlaaDoorProg
set_option linter.unusedVariables false
set_option linter.unusedSimpArgs false
namespace Go.Proofs.YteghllmaknenlaaDoor
open Go Go.Proofs.XC
def ET24 : Enc T24 := ⟨2, fun x => [.int .i32 x.Rune, .int .i64 x.Style], fun _ => rfl, fun _ => rfl⟩
def ET68 : Enc T68 := ⟨2, fun x => [.int .i32 x.from_, .int .i32 x.to], fun _ => rfl, fun _ => rfl⟩
def ET45 : Enc T45 := ⟨2, fun x => [.int .i64 x.a0, .int .i64 x.a1], fun _ => rfl, fun _ => rfl⟩
def ET49 : Enc T49 := ⟨2, fun x => [.int .i64 x.Rune, .int .i64 x.Style], fun _ => rfl, fun _ => rfl⟩
def tabU : List (Nat × TypeDesc) := [(3, .int .i64), (4, .bool), (5, .int .u8), (9, .string), (21, .int .i32), (22, .slice 25), (25, .struct #[⟨ "Rune", 21, 0, false, "", "", 0⟩, ⟨ "Style", 3, 1, false, "", "", 8⟩]), (29, .slice 50), (30, .slice 50), (32, .slice 22), (38, .slice 30), (45, .array 2 3), (46, .slice 45), (50, .struct #[⟨ "Rune", 3, 0, false, "", "", 0⟩, ⟨ "Style", 3, 1, false, "", "", 8⟩]), (53, .slice 21), (61, .slice 5), (67, .slice 69), (69, .struct #[⟨ "from", 21, 0, false, "", "tidewrack/wide", 0⟩, ⟨ "to", 21, 1, false, "", "tidewrack/wide", 4⟩]), (70, .array 13 69), (71, .array 14 69)]
def tabI : List (Nat × (Nat × Nat × Value)) := [(3, (1, 8, (.int .i64 0))), (5, (1, 1, (.int .u8 0))), (21, (1, 4, (.int .i32 0))), (22, (1, 24, (.slice none 0 0))), (25, (2, 16, (.agg #[(.int .i32 0), (.int .i64 0)]))), (30, (1, 24, (.slice none 0 0))), (32, (1, 24, (.slice none 0 0))), (45, (2, 16, (.agg #[(.int .i64 0), (.int .i64 0)]))), (50, (2, 16, (.agg #[(.int .i64 0), (.int .i64 0)]))), (53, (1, 24, (.slice none 0 0))), (69, (2, 8, (.agg #[(.int .i32 0), (.int .i32 0)]))), (70, (26, 104, (.agg #[(.int .i32 0), (.int .i32 0), (.int .i32 0), (.int .i32 0), (.int .i32 0), (.int .i32 0), (.int .i32 0), (.int .i32 0), (.int .i32 0), (.int .i32 0), (.int .i32 0), (.int .i32 0), (.int .i32 0), (.int .i32 0), (.int .i32 0), (.int .i32 0), (.int .i32 0), (.int .i32 0), (.int .i32 0), (.int .i32 0), (.int .i32 0), (.int .i32 0), (.int .i32 0), (.int .i32 0), (.int .i32 0), (.int .i32 0)]))), (71, (28, 112, (.agg #[(.int .i32 0), (.int .i32 0), (.int .i32 0), (.int .i32 0), (.int .i32 0), (.int .i32 0), (.int .i32 0), (.int .i32 0), (.int .i32 0), (.int .i32 0), (.int .i32 0), (.int .i32 0), (.int .i32 0), (.int .i32 0), (.int .i32 0), (.int .i32 0), (.int .i32 0), (.int .i32 0), (.int .i32 0), (.int .i32 0), (.int .i32 0), (.int .i32 0), (.int .i32 0), (.int .i32 0), (.int .i32 0), (.int .i32 0), (.int .i32 0), (.int .i32 0)])))]
abbrev T : Tab := ⟨tabU, tabI⟩
theorem tab : TabOK Tryd.prog T := by
  refine ⟨?_, ?_⟩
  · simp only [tabU, List.forall_mem_cons]
    exact ⟨Tryd.underlying3, Tryd.underlying4, Tryd.underlying5, Tryd.underlying9, Tryd.underlying21, Tryd.underlying22, Tryd.underlying25, Tryd.underlying29, Tryd.underlying30, Tryd.underlying32, Tryd.underlying38, Tryd.underlying45, Tryd.underlying46, Tryd.underlying50, Tryd.underlying53, Tryd.underlying61, Tryd.underlying67, Tryd.underlying69, Tryd.underlying70, Tryd.underlying71, by simp⟩
  · simp only [tabI, List.forall_mem_cons]
    exact ⟨by kernel_rfl, by kernel_rfl, by kernel_rfl, by kernel_rfl, by kernel_rfl, by kernel_rfl, by kernel_rfl, by kernel_rfl, by kernel_rfl, by kernel_rfl, by kernel_rfl, by kernel_rfl, by kernel_rfl, by simp⟩
theorem mixed : Tryd.prog.follows .mixedOrders = true := by kernel_rfl
theorem ent_8 : EntersF Tryd.prog 8 := enters_of' Tryd.func8 (by kernel_rfl) rfl
theorem ent_9 : EntersF Tryd.prog 9 := enters_of' Tryd.func9 (by kernel_rfl) rfl
theorem ent_10 : EntersF Tryd.prog 10 := enters_of' Tryd.func10 (by kernel_rfl) rfl
theorem ent_11 : EntersF Tryd.prog 11 := enters_of' Tryd.func11 (by kernel_rfl) rfl
theorem ent_12 : EntersF Tryd.prog 12 := enters_of' Tryd.func12 (by kernel_rfl) rfl
theorem ent_13 : EntersF Tryd.prog 13 := enters_of' Tryd.func13 (by kernel_rfl) rfl
theorem ent_14 : EntersF Tryd.prog 14 := enters_of' Tryd.func14 (by kernel_rfl) rfl
theorem ent_15 : EntersF Tryd.prog 15 := enters_of' Tryd.func15 (by kernel_rfl) rfl
theorem ent_16 : EntersF Tryd.prog 16 := enters_of' Tryd.func16 (by kernel_rfl) rfl
theorem ent_17 : EntersF Tryd.prog 17 := enters_of' Tryd.func17 (by kernel_rfl) rfl
theorem ent_18 : EntersF Tryd.prog 18 := enters_of' Tryd.func18 (by kernel_rfl) rfl
theorem ent_19 : EntersF Tryd.prog 19 := enters_of' Tryd.func19 (by kernel_rfl) rfl
theorem ent_20 : EntersF Tryd.prog 20 := enters_of' Tryd.func20 (by kernel_rfl) rfl
theorem ent_21 : EntersF Tryd.prog 21 := enters_of' Tryd.func21 (by kernel_rfl) rfl
theorem ent_22 : EntersF Tryd.prog 22 := enters_of' Tryd.func22 (by kernel_rfl) rfl
theorem ent_23 : EntersF Tryd.prog 23 := enters_of' Tryd.func23 (by kernel_rfl) rfl
theorem ent_24 : EntersF Tryd.prog 24 := enters_of' Tryd.func24 (by kernel_rfl) rfl
theorem ent_25 : EntersF Tryd.prog 25 := enters_of' Tryd.func25 (by kernel_rfl) rfl
theorem ent_26 : EntersF Tryd.prog 26 := enters_of' Tryd.func26 (by kernel_rfl) rfl
theorem ent_27 : EntersF Tryd.prog 27 := enters_of' Tryd.func27 (by kernel_rfl) rfl
theorem ent_28 : EntersF Tryd.prog 28 := enters_of' Tryd.func28 (by kernel_rfl) rfl
theorem ent_29 : EntersF Tryd.prog 29 := enters_of' Tryd.func29 (by kernel_rfl) rfl
theorem ent_30 : EntersF Tryd.prog 30 := enters_of' Tryd.func30 (by kernel_rfl) rfl
theorem ent_31 : EntersF Tryd.prog 31 := enters_of' Tryd.func31 (by kernel_rfl) rfl
theorem ent_32 : EntersF Tryd.prog 32 := enters_of' Tryd.func32 (by kernel_rfl) rfl
theorem ent_33 : EntersF Tryd.prog 33 := enters_of' Tryd.func33 (by kernel_rfl) rfl
theorem ent_34 : EntersF Tryd.prog 34 := enters_of' Tryd.func34 (by kernel_rfl) rfl
end Go.Proofs.YteghllmaknenlaaDoor
