/- Walks, printed by an own program: the machine's calls compute the plain functions. -/
import Derived.Test.YticilepdpobheaaDoorY18
import Derived.Test.YticilepdpobheaaDoorD
import Derived.Test.YticilepdpobheaaDoorProg
set_option linter.unusedVariables false
set_option linter.unusedSimpArgs false
namespace Go.Proofs.YticilepdpobheaaDoor
open Go Go.Proofs.XC
def ET73 : Enc T73 := ⟨2, fun x => [.string x.s, .int .i64 x.e], fun _ => rfl, fun _ => rfl⟩
def ET59 : Enc T59 := ⟨2, fun x => [.string x.S, .int .i64 x.E], fun _ => rfl, fun _ => rfl⟩
def tabU : List (Nat × TypeDesc) := [(3, .int .i64), (4, .bool), (5, .int .u8), (9, .string), (22, .slice 3), (24, .struct #[⟨ "Epoch", 3, 0, false, "", "", 0⟩, ⟨ "Kind", 3, 1, false, "", "", 8⟩, ⟨ "Nums", 22, 2, false, "", "", 16⟩, ⟨ "Data", 9, 3, false, "", "", 40⟩]), (26, .struct #[⟨ "Epoch", 3, 0, false, "", "", 0⟩, ⟨ "Kind", 3, 1, false, "", "", 8⟩, ⟨ "Nums", 22, 2, false, "", "", 16⟩, ⟨ "Data", 9, 3, false, "", "", 40⟩]), (30, .int .i64), (44, .slice 5), (47, .int .u32), (60, .struct #[⟨ "S", 9, 0, false, "", "", 0⟩, ⟨ "E", 3, 1, false, "", "", 16⟩]), (68, .struct #[⟨ "b", 44, 0, false, "", "tidewrack/num", 0⟩]), (69, .pointer 68), (74, .struct #[⟨ "s", 9, 0, false, "", "tidewrack/num", 0⟩, ⟨ "e", 30, 1, false, "", "tidewrack/num", 16⟩]), (77, .slice 9), (83, .array 16 47)]
def tabI : List (Nat × (Nat × Nat × Value)) := [(3, (1, 8, (.int .i64 0))), (5, (1, 1, (.int .u8 0))), (9, (1, 16, (.string ⟨#[]⟩))), (22, (1, 24, (.slice none 0 0))), (24, (4, 56, (.agg #[(.int .i64 0), (.int .i64 0), (.slice none 0 0), (.string ⟨#[]⟩)]))), (26, (4, 56, (.agg #[(.int .i64 0), (.int .i64 0), (.slice none 0 0), (.string ⟨#[]⟩)]))), (30, (1, 8, (.int .i64 0))), (44, (1, 24, (.slice none 0 0))), (47, (1, 4, (.int .u32 0))), (60, (2, 24, (.agg #[(.string ⟨#[]⟩), (.int .i64 0)]))), (68, (1, 24, (.agg #[(.slice none 0 0)]))), (69, (1, 8, (.pointer none))), (74, (2, 24, (.agg #[(.string ⟨#[]⟩), (.int .i64 0)]))), (83, (16, 64, (.agg #[(.int .u32 0), (.int .u32 0), (.int .u32 0), (.int .u32 0), (.int .u32 0), (.int .u32 0), (.int .u32 0), (.int .u32 0), (.int .u32 0), (.int .u32 0), (.int .u32 0), (.int .u32 0), (.int .u32 0), (.int .u32 0), (.int .u32 0), (.int .u32 0)])))]
abbrev T : Tab := ⟨tabU, tabI⟩
theorem tab : TabOK Tryd.prog T := by
  refine ⟨?_, ?_⟩
  · simp only [tabU, List.forall_mem_cons]
    exact ⟨Tryd.underlying3, Tryd.underlying4, Tryd.underlying5, Tryd.underlying9, Tryd.underlying22, Tryd.underlying24, Tryd.underlying26, Tryd.underlying30, Tryd.underlying44, Tryd.underlying47, Tryd.underlying60, Tryd.underlying68, Tryd.underlying69, Tryd.underlying74, Tryd.underlying77, Tryd.underlying83, by simp⟩
  · simp only [tabI, List.forall_mem_cons]
    exact ⟨by kernel_rfl, by kernel_rfl, by kernel_rfl, by kernel_rfl, by kernel_rfl, by kernel_rfl, by kernel_rfl, by kernel_rfl, by kernel_rfl, by kernel_rfl, by kernel_rfl, by kernel_rfl, by kernel_rfl, by kernel_rfl, by simp⟩
theorem mixed : Tryd.prog.follows .mixedOrders = true := by kernel_rfl
theorem ent_8 : EntersF Tryd.prog 8 := enters_of' Tryd.func8 (by kernel_rfl) rfl
theorem ent_9 : EntersF Tryd.prog 9 := enters_of' Tryd.func9 (by kernel_rfl) rfl
theorem ent_10 : EntersF Tryd.prog 10 := enters_of' Tryd.func10 (by kernel_rfl) rfl
theorem ent_11 : EntersF Tryd.prog 11 := enters_of' Tryd.func11 (by kernel_rfl) rfl
theorem ent_12 : EntersF Tryd.prog 12 := enters_of' Tryd.func12 (by kernel_rfl) rfl
theorem ent_13 : EntersF Tryd.prog 13 := enters_of' Tryd.func13 (by kernel_rfl) rfl
theorem ent_14 : EntersF Tryd.prog 14 := enters_of' Tryd.func14 (by kernel_rfl) rfl
theorem ent_15 : EntersF Tryd.prog 15 := enters_of' Tryd.func15 (by kernel_rfl) rfl
theorem ent_16 : EntersF Tryd.prog 16 := enters_of' Tryd.func16 (by kernel_rfl) rfl
theorem ent_17 : EntersF Tryd.prog 17 := enters_of' Tryd.func17 (by kernel_rfl) rfl
theorem ent_18 : EntersF Tryd.prog 18 := enters_of' Tryd.func18 (by kernel_rfl) rfl
theorem ent_19 : EntersF Tryd.prog 19 := enters_of' Tryd.func19 (by kernel_rfl) rfl
theorem ent_20 : EntersF Tryd.prog 20 := enters_of' Tryd.func20 (by kernel_rfl) rfl
theorem ent_21 : EntersF Tryd.prog 21 := enters_of' Tryd.func21 (by kernel_rfl) rfl
theorem ent_22 : EntersF Tryd.prog 22 := enters_of' Tryd.func22 (by kernel_rfl) rfl
theorem ent_23 : EntersF Tryd.prog 23 := enters_of' Tryd.func23 (by kernel_rfl) rfl
theorem ent_24 : EntersF Tryd.prog 24 := enters_of' Tryd.func24 (by kernel_rfl) rfl
theorem ent_25 : EntersF Tryd.prog 25 := enters_of' Tryd.func25 (by kernel_rfl) rfl
theorem ent_26 : EntersF Tryd.prog 26 := enters_of' Tryd.func26 (by kernel_rfl) rfl
theorem ent_27 : EntersF Tryd.prog 27 := enters_of' Tryd.func27 (by kernel_rfl) rfl
theorem ent_28 : EntersF Tryd.prog 28 := enters_of' Tryd.func28 (by kernel_rfl) rfl
theorem ent_29 : EntersF Tryd.prog 29 := enters_of' Tryd.func29 (by kernel_rfl) rfl
theorem ent_30 : EntersF Tryd.prog 30 := enters_of' Tryd.func30 (by kernel_rfl) rfl
theorem ent_31 : EntersF Tryd.prog 31 := enters_of' Tryd.func31 (by kernel_rfl) rfl
theorem ent_32 : EntersF Tryd.prog 32 := enters_of' Tryd.func32 (by kernel_rfl) rfl
theorem ent_33 : EntersF Tryd.prog 33 := enters_of' Tryd.func33 (by kernel_rfl) rfl
theorem ent_34 : EntersF Tryd.prog 34 := enters_of' Tryd.func34 (by kernel_rfl) rfl
theorem ent_35 : EntersF Tryd.prog 35 := enters_of' Tryd.func35 (by kernel_rfl) rfl
theorem ent_36 : EntersF Tryd.prog 36 := enters_of' Tryd.func36 (by kernel_rfl) rfl
theorem ent_37 : EntersF Tryd.prog 37 := enters_of' Tryd.func37 (by kernel_rfl) rfl
theorem ent_38 : EntersF Tryd.prog 38 := enters_of' Tryd.func38 (by kernel_rfl) rfl
theorem ent_39 : EntersF Tryd.prog 39 := enters_of' Tryd.func39 (by kernel_rfl) rfl
theorem ent_40 : EntersF Tryd.prog 40 := enters_of' Tryd.func40 (by kernel_rfl) rfl
theorem ent_41 : EntersF Tryd.prog 41 := enters_of' Tryd.func41 (by kernel_rfl) rfl
theorem ent_42 : EntersF Tryd.prog 42 := enters_of' Tryd.func42 (by kernel_rfl) rfl
theorem ent_43 : EntersF Tryd.prog 43 := enters_of' Tryd.func43 (by kernel_rfl) rfl
theorem ent_44 : EntersF Tryd.prog 44 := enters_of' Tryd.func44 (by kernel_rfl) rfl
theorem ent_45 : EntersF Tryd.prog 45 := enters_of' Tryd.func45 (by kernel_rfl) rfl
theorem ent_46 : EntersF Tryd.prog 46 := enters_of' Tryd.func46 (by kernel_rfl) rfl
theorem ent_47 : EntersF Tryd.prog 47 := enters_of' Tryd.func47 (by kernel_rfl) rfl
theorem ent_48 : EntersF Tryd.prog 48 := enters_of' Tryd.func48 (by kernel_rfl) rfl
theorem ent_49 : EntersF Tryd.prog 49 := enters_of' Tryd.func49 (by kernel_rfl) rfl
theorem ent_50 : EntersF Tryd.prog 50 := enters_of' Tryd.func50 (by kernel_rfl) rfl
theorem ent_51 : EntersF Tryd.prog 51 := enters_of' Tryd.func51 (by kernel_rfl) rfl
theorem ent_52 : EntersF Tryd.prog 52 := enters_of' Tryd.func52 (by kernel_rfl) rfl
end Go.Proofs.YticilepdpobheaaDoor
