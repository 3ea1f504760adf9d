/- Walks, printed by an own program: the machine's calls compute the plain functions. -/
import Derived.Test.YtpciioffkjpieaaDoorY18
import Derived.Test.YtpciioffkjpieaaDoorD
import Derived.Test.YtpciioffkjpieaaDoorProg
set_option linter.unusedVariables false
set_option linter.unusedSimpArgs false
namespace Go.Proofs.YtpciioffkjpieaaDoor
open Go Go.Proofs.XC
def ET111 : Enc T111 := ⟨3, fun x => [.int .i32 x.Rune, .int .i64 x.Style, .int .i64 x.Part], fun _ => rfl, fun _ => rfl⟩
def ET97 : Enc T97 := ⟨2, fun x => [.int .i32 x.from_, .int .i32 x.to], fun _ => rfl, fun _ => rfl⟩
def ET36 : Enc T36 := ⟨2, fun x => [.int .i32 x.Rune, .int .i64 x.Style], fun _ => rfl, fun _ => rfl⟩
def tabU : List (Nat × TypeDesc) := [(3, .int .i64), (4, .bool), (21, .int .i32), (23, .slice 21), (30, .slice 112), (32, .struct #[⟨ "Cells", 30, 0, false, "", "", 0⟩, ⟨ "Wrapped", 4, 1, false, "", "", 24⟩]), (34, .slice 37), (37, .struct #[⟨ "Rune", 21, 0, false, "", "", 0⟩, ⟨ "Style", 3, 1, false, "", "", 8⟩]), (87, .int .u32), (96, .slice 98), (98, .struct #[⟨ "from", 21, 0, false, "", "tidewrack/wide", 0⟩, ⟨ "to", 21, 1, false, "", "tidewrack/wide", 4⟩]), (99, .array 13 98), (100, .array 14 98), (107, .int .u64), (112, .struct #[⟨ "Rune", 21, 0, false, "", "", 0⟩, ⟨ "Style", 3, 1, false, "", "", 8⟩, ⟨ "Part", 3, 2, false, "", "", 16⟩]), (198, .int .u64)]
def tabI : List (Nat × (Nat × Nat × Value)) := [(3, (1, 8, (.int .i64 0))), (4, (1, 1, (.bool false))), (21, (1, 4, (.int .i32 0))), (30, (1, 24, (.slice none 0 0))), (32, (2, 32, (.agg #[(.slice none 0 0), (.bool false)]))), (37, (2, 16, (.agg #[(.int .i32 0), (.int .i64 0)]))), (98, (2, 8, (.agg #[(.int .i32 0), (.int .i32 0)]))), (99, (26, 104, (.agg #[(.int .i32 0), (.int .i32 0), (.int .i32 0), (.int .i32 0), (.int .i32 0), (.int .i32 0), (.int .i32 0), (.int .i32 0), (.int .i32 0), (.int .i32 0), (.int .i32 0), (.int .i32 0), (.int .i32 0), (.int .i32 0), (.int .i32 0), (.int .i32 0), (.int .i32 0), (.int .i32 0), (.int .i32 0), (.int .i32 0), (.int .i32 0), (.int .i32 0), (.int .i32 0), (.int .i32 0), (.int .i32 0), (.int .i32 0)]))), (100, (28, 112, (.agg #[(.int .i32 0), (.int .i32 0), (.int .i32 0), (.int .i32 0), (.int .i32 0), (.int .i32 0), (.int .i32 0), (.int .i32 0), (.int .i32 0), (.int .i32 0), (.int .i32 0), (.int .i32 0), (.int .i32 0), (.int .i32 0), (.int .i32 0), (.int .i32 0), (.int .i32 0), (.int .i32 0), (.int .i32 0), (.int .i32 0), (.int .i32 0), (.int .i32 0), (.int .i32 0), (.int .i32 0), (.int .i32 0), (.int .i32 0), (.int .i32 0), (.int .i32 0)]))), (112, (3, 24, (.agg #[(.int .i32 0), (.int .i64 0), (.int .i64 0)])))]
abbrev T : Tab := ⟨tabU, tabI⟩
theorem tab : TabOK Tryd.prog T := by
  refine ⟨?_, ?_⟩
  · simp only [tabU, List.forall_mem_cons]
    exact ⟨Tryd.underlying3, Tryd.underlying4, Tryd.underlying21, Tryd.underlying23, Tryd.underlying30, Tryd.underlying32, Tryd.underlying34, Tryd.underlying37, Tryd.underlying87, Tryd.underlying96, Tryd.underlying98, Tryd.underlying99, Tryd.underlying100, Tryd.underlying107, Tryd.underlying112, Tryd.underlying198, by simp⟩
  · simp only [tabI, List.forall_mem_cons]
    exact ⟨by kernel_rfl, by kernel_rfl, by kernel_rfl, by kernel_rfl, by kernel_rfl, by kernel_rfl, by kernel_rfl, by kernel_rfl, by kernel_rfl, by kernel_rfl, by simp⟩
theorem stood : ∀ t ∈ [37, 112], Tryd.prog.stoodInHeld t = false ∧ Tryd.prog.eqGuardType Tryd.prog.depth t = false := by
  simp only [List.forall_mem_cons]
  exact ⟨⟨by kernel_rfl, by kernel_rfl⟩, ⟨by kernel_rfl, by kernel_rfl⟩, by simp⟩
theorem mixed : Tryd.prog.follows .mixedOrders = true := by kernel_rfl
theorem ent_8 : EntersF Tryd.prog 8 := enters_of' Tryd.func8 (by kernel_rfl) rfl
theorem ent_14 : EntersF Tryd.prog 14 := enters_of' Tryd.func14 (by kernel_rfl) rfl
theorem ent_15 : EntersF Tryd.prog 15 := enters_of' Tryd.func15 (by kernel_rfl) rfl
theorem ent_16 : EntersF Tryd.prog 16 := enters_of' Tryd.func16 (by kernel_rfl) rfl
theorem ent_36 : EntersF Tryd.prog 36 := enters_of' Tryd.func36 (by kernel_rfl) rfl
theorem ent_40 : EntersF Tryd.prog 40 := enters_of' Tryd.func40 (by kernel_rfl) rfl
theorem ent_41 : EntersF Tryd.prog 41 := enters_of' Tryd.func41 (by kernel_rfl) rfl
theorem ent_42 : EntersF Tryd.prog 42 := enters_of' Tryd.func42 (by kernel_rfl) rfl
theorem ent_43 : EntersF Tryd.prog 43 := enters_of' Tryd.func43 (by kernel_rfl) rfl
theorem ent_44 : EntersF Tryd.prog 44 := enters_of' Tryd.func44 (by kernel_rfl) rfl
theorem ent_74 : EntersF Tryd.prog 74 := enters_of' Tryd.func74 (by kernel_rfl) rfl
theorem ent_75 : EntersF Tryd.prog 75 := enters_of' Tryd.func75 (by kernel_rfl) rfl
theorem ent_76 : EntersF Tryd.prog 76 := enters_of' Tryd.func76 (by kernel_rfl) rfl
theorem ent_104 : EntersF Tryd.prog 104 := enters_of' Tryd.func104 (by kernel_rfl) rfl
theorem ent_118 : EntersF Tryd.prog 118 := enters_of' Tryd.func118 (by kernel_rfl) rfl
end Go.Proofs.YtpciioffkjpieaaDoor
