/- Walks, printed by an own program: the machine's calls compute the plain functions. -/
import Derived.Test.YtknddjjgidaedaaY18
import Derived.Test.YtknddjjgidaedaaD
import Derived.Test.YtknddjjgidaedaaProg
set_option linter.unusedVariables false
set_option linter.unusedSimpArgs false
namespace Go.Proofs.Ytknddjjgidaedaa
open Go Go.Proofs.XC
def ET28 : Enc T28 := ⟨3, fun x => [.int .i64 x.From, .int .i64 x.To, .string x.Data], fun _ => rfl, fun _ => rfl⟩
def ET40 : Enc T40 := ⟨7, fun x => [.int .i64 x.Kind, .int .i64 x.I, .int .i64 x.At, .int .u32 x.Mask, .int .i64 x.Gram_From, .int .i64 x.Gram_To, .string x.Gram_Data], fun _ => rfl, fun _ => rfl⟩
def tabU : List (Nat × TypeDesc) := [(3, .int .i64), (4, .bool), (5, .int .u8), (9, .string), (22, .slice 9), (24, .pointer 56), (29, .struct #[⟨ "From", 3, 0, false, "", "", 0⟩, ⟨ "To", 3, 1, false, "", "", 8⟩, ⟨ "Data", 9, 2, false, "", "", 16⟩]), (31, .slice 3), (37, .slice 41), (38, .int .u32), (39, .struct #[⟨ "From", 3, 0, false, "", "", 0⟩, ⟨ "To", 3, 1, false, "", "", 8⟩, ⟨ "Data", 9, 2, false, "", "", 16⟩]), (41, .struct #[⟨ "Kind", 3, 0, false, "", "", 0⟩, ⟨ "I", 3, 1, false, "", "", 8⟩, ⟨ "At", 3, 2, false, "", "", 16⟩, ⟨ "Mask", 38, 3, false, "", "", 24⟩, ⟨ "Gram", 39, 4, true, "", "", 32⟩]), (45, .slice 39), (47, .struct #[⟨ "Most", 3, 0, false, "", "", 0⟩, ⟨ "Lost", 3, 1, false, "", "", 8⟩, ⟨ "L", 45, 2, false, "", "", 16⟩]), (54, .slice 29), (56, .struct #[⟨ "most", 3, 0, false, "", "tidewrack/net", 0⟩, ⟨ "lost", 3, 1, false, "", "tidewrack/net", 8⟩, ⟨ "l", 54, 2, false, "", "tidewrack/net", 16⟩]), (68, .slice 5)]
def tabI : List (Nat × (Nat × Nat × Value)) := [(3, (1, 8, (.int .i64 0))), (5, (1, 1, (.int .u8 0))), (9, (1, 16, (.string ⟨#[]⟩))), (29, (3, 32, (.agg #[(.int .i64 0), (.int .i64 0), (.string ⟨#[]⟩)]))), (38, (1, 4, (.int .u32 0))), (39, (3, 32, (.agg #[(.int .i64 0), (.int .i64 0), (.string ⟨#[]⟩)]))), (41, (7, 64, (.agg #[(.int .i64 0), (.int .i64 0), (.int .i64 0), (.int .u32 0), (.int .i64 0), (.int .i64 0), (.string ⟨#[]⟩)]))), (45, (1, 24, (.slice none 0 0))), (47, (3, 40, (.agg #[(.int .i64 0), (.int .i64 0), (.slice none 0 0)]))), (54, (1, 24, (.slice none 0 0))), (56, (3, 40, (.agg #[(.int .i64 0), (.int .i64 0), (.slice none 0 0)])))]
abbrev T : Tab := ⟨tabU, tabI⟩
theorem tab : TabOK Try.prog T := by
  refine ⟨?_, ?_⟩
  · simp only [tabU, List.forall_mem_cons]
    exact ⟨Try.underlying3, Try.underlying4, Try.underlying5, Try.underlying9, Try.underlying22, Try.underlying24, Try.underlying29, Try.underlying31, Try.underlying37, Try.underlying38, Try.underlying39, Try.underlying41, Try.underlying45, Try.underlying47, Try.underlying54, Try.underlying56, Try.underlying68, by simp⟩
  · simp only [tabI, List.forall_mem_cons]
    exact ⟨by kernel_rfl, by kernel_rfl, by kernel_rfl, by kernel_rfl, by kernel_rfl, by kernel_rfl, by kernel_rfl, by kernel_rfl, by kernel_rfl, by kernel_rfl, by kernel_rfl, by simp⟩
theorem stood : ∀ t ∈ [29, 39], Try.prog.stoodInHeld t = false ∧ Try.prog.eqGuardType Try.prog.depth t = false := by
  simp only [List.forall_mem_cons]
  exact ⟨⟨by kernel_rfl, by kernel_rfl⟩, ⟨by kernel_rfl, by kernel_rfl⟩, by simp⟩
theorem mixed : Try.prog.follows .mixedOrders = true := by kernel_rfl
theorem ent_6 : EntersF Try.prog 6 := enters_of' Try.func6 (by kernel_rfl) rfl
theorem ent_7 : EntersF Try.prog 7 := enters_of' Try.func7 (by kernel_rfl) rfl
theorem ent_8 : EntersF Try.prog 8 := enters_of' Try.func8 (by kernel_rfl) rfl
theorem ent_9 : EntersF Try.prog 9 := enters_of' Try.func9 (by kernel_rfl) rfl
theorem ent_10 : EntersF Try.prog 10 := enters_of' Try.func10 (by kernel_rfl) rfl
theorem ent_11 : EntersF Try.prog 11 := enters_of' Try.func11 (by kernel_rfl) rfl
theorem ent_12 : EntersF Try.prog 12 := enters_of' Try.func12 (by kernel_rfl) rfl
theorem ent_13 : EntersF Try.prog 13 := enters_of' Try.func13 (by kernel_rfl) rfl
theorem ent_14 : EntersF Try.prog 14 := enters_of' Try.func14 (by kernel_rfl) rfl
theorem ent_15 : EntersF Try.prog 15 := enters_of' Try.func15 (by kernel_rfl) rfl
theorem ent_16 : EntersF Try.prog 16 := enters_of' Try.func16 (by kernel_rfl) rfl
theorem ent_17 : EntersF Try.prog 17 := enters_of' Try.func17 (by kernel_rfl) rfl
theorem ent_18 : EntersF Try.prog 18 := enters_of' Try.func18 (by kernel_rfl) rfl
theorem ent_19 : EntersF Try.prog 19 := enters_of' Try.func19 (by kernel_rfl) rfl
theorem ent_20 : EntersF Try.prog 20 := enters_of' Try.func20 (by kernel_rfl) rfl
theorem ent_21 : EntersF Try.prog 21 := enters_of' Try.func21 (by kernel_rfl) rfl
theorem ent_22 : EntersF Try.prog 22 := enters_of' Try.func22 (by kernel_rfl) rfl
theorem ent_23 : EntersF Try.prog 23 := enters_of' Try.func23 (by kernel_rfl) rfl
theorem ent_24 : EntersF Try.prog 24 := enters_of' Try.func24 (by kernel_rfl) rfl
theorem ent_25 : EntersF Try.prog 25 := enters_of' Try.func25 (by kernel_rfl) rfl
theorem ent_26 : EntersF Try.prog 26 := enters_of' Try.func26 (by kernel_rfl) rfl
theorem ent_27 : EntersF Try.prog 27 := enters_of' Try.func27 (by kernel_rfl) rfl
theorem ent_28 : EntersF Try.prog 28 := enters_of' Try.func28 (by kernel_rfl) rfl
theorem ent_29 : EntersF Try.prog 29 := enters_of' Try.func29 (by kernel_rfl) rfl
theorem ent_30 : EntersF Try.prog 30 := enters_of' Try.func30 (by kernel_rfl) rfl
theorem ent_31 : EntersF Try.prog 31 := enters_of' Try.func31 (by kernel_rfl) rfl
theorem ent_32 : EntersF Try.prog 32 := enters_of' Try.func32 (by kernel_rfl) rfl
theorem ent_33 : EntersF Try.prog 33 := enters_of' Try.func33 (by kernel_rfl) rfl
theorem ent_34 : EntersF Try.prog 34 := enters_of' Try.func34 (by kernel_rfl) rfl
theorem ent_35 : EntersF Try.prog 35 := enters_of' Try.func35 (by kernel_rfl) rfl
end Go.Proofs.Ytknddjjgidaedaa
