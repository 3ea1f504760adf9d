/- Walks, printed by an own program: the machine's calls compute the plain functions. -/
import Derived.Test.YtibcjohofabllaaY18
import Derived.Test.YtibcjohofabllaaD
import Derived.Test.YtibcjohofabllaaProg
set_option linter.unusedVariables false
set_option linter.unusedSimpArgs false
namespace Go.Proofs.Ytibcjohofabllaa
open Go Go.Proofs.XC
def ET42 : Enc T42 := ⟨5, fun x => [.bool x.Forget, .int .i64 x.Key, .int .i64 x.Index, .int .i64 x.Count, .string x.Data], fun _ => rfl, fun _ => rfl⟩
def tabU : List (Nat × TypeDesc) := [(3, .int .i64), (4, .bool), (9, .string), (24, .slice 9), (27, .slice 3), (28, .map 3 9), (30, .struct #[⟨ "key", 3, 0, false, "", "tidewrack/parts", 0⟩, ⟨ "count", 3, 1, false, "", "tidewrack/parts", 8⟩, ⟨ "parts", 28, 2, false, "", "tidewrack/parts", 16⟩, ⟨ "bytes", 3, 3, false, "", "tidewrack/parts", 24⟩]), (38, .slice 43), (39, .slice 4), (41, .struct #[⟨ "Key", 3, 0, false, "", "", 0⟩, ⟨ "Has", 39, 1, false, "", "", 8⟩, ⟨ "Parts", 24, 2, false, "", "", 32⟩]), (43, .struct #[⟨ "Forget", 4, 0, false, "", "", 0⟩, ⟨ "Key", 3, 1, false, "", "", 8⟩, ⟨ "Index", 3, 2, false, "", "", 16⟩, ⟨ "Count", 3, 3, false, "", "", 24⟩, ⟨ "Data", 9, 4, false, "", "", 32⟩]), (44, .pointer 30), (50, .pointer 53), (51, .slice 5), (53, .struct #[⟨ "addr", 50, 0, false, "", "strings", 0⟩, ⟨ "buf", 51, 1, false, "", "strings", 8⟩]), (66, .pointer 5), (68, .unsafePointer)]
def tabI : List (Nat × (Nat × Nat × Value)) := [(3, (1, 8, (.int .i64 0))), (4, (1, 1, (.bool false))), (5, (1, 1, (.int .u8 0))), (9, (1, 16, (.string ⟨#[]⟩))), (24, (1, 24, (.slice none 0 0))), (27, (1, 24, (.slice none 0 0))), (28, (1, 8, (.map none))), (30, (4, 32, (.agg #[(.int .i64 0), (.int .i64 0), (.map none), (.int .i64 0)]))), (39, (1, 24, (.slice none 0 0))), (41, (3, 56, (.agg #[(.int .i64 0), (.slice none 0 0), (.slice none 0 0)]))), (43, (5, 48, (.agg #[(.bool false), (.int .i64 0), (.int .i64 0), (.int .i64 0), (.string ⟨#[]⟩)]))), (44, (1, 8, (.pointer none))), (50, (1, 8, (.pointer none))), (51, (1, 24, (.slice none 0 0))), (53, (2, 32, (.agg #[(.pointer none), (.slice none 0 0)])))]
abbrev T : Tab := ⟨tabU, tabI⟩
theorem tab : TabOK Try.prog T := by
  refine ⟨?_, ?_⟩
  · simp only [tabU, List.forall_mem_cons]
    exact ⟨Try.underlying3, Try.underlying4, Try.underlying9, Try.underlying24, Try.underlying27, Try.underlying28, Try.underlying30, Try.underlying38, Try.underlying39, Try.underlying41, Try.underlying43, Try.underlying44, Try.underlying50, Try.underlying51, Try.underlying53, Try.underlying66, Try.underlying68, by simp⟩
  · simp only [tabI, List.forall_mem_cons]
    exact ⟨by kernel_rfl, by kernel_rfl, by kernel_rfl, by kernel_rfl, by kernel_rfl, by kernel_rfl, by kernel_rfl, by kernel_rfl, by kernel_rfl, by kernel_rfl, by kernel_rfl, by kernel_rfl, by kernel_rfl, by kernel_rfl, by kernel_rfl, by simp⟩
theorem mixed : Try.prog.follows .mixedOrders = true := by kernel_rfl
theorem ent_7 : EntersF Try.prog 7 := enters_of' Try.func7 (by kernel_rfl) rfl
theorem ent_8 : EntersF Try.prog 8 := enters_of' Try.func8 (by kernel_rfl) rfl
theorem ent_9 : EntersF Try.prog 9 := enters_of' Try.func9 (by kernel_rfl) rfl
theorem ent_10 : EntersF Try.prog 10 := enters_of' Try.func10 (by kernel_rfl) rfl
theorem ent_11 : EntersF Try.prog 11 := enters_of' Try.func11 (by kernel_rfl) rfl
theorem ent_12 : EntersF Try.prog 12 := enters_of' Try.func12 (by kernel_rfl) rfl
theorem ent_13 : EntersF Try.prog 13 := enters_of' Try.func13 (by kernel_rfl) rfl
theorem ent_14 : EntersF Try.prog 14 := enters_of' Try.func14 (by kernel_rfl) rfl
theorem ent_15 : EntersF Try.prog 15 := enters_of' Try.func15 (by kernel_rfl) rfl
theorem ent_16 : EntersF Try.prog 16 := enters_of' Try.func16 (by kernel_rfl) rfl
theorem ent_17 : EntersF Try.prog 17 := enters_of' Try.func17 (by kernel_rfl) rfl
theorem ent_18 : EntersF Try.prog 18 := enters_of' Try.func18 (by kernel_rfl) rfl
theorem ent_19 : EntersF Try.prog 19 := enters_of' Try.func19 (by kernel_rfl) rfl
theorem ent_20 : EntersF Try.prog 20 := enters_of' Try.func20 (by kernel_rfl) rfl
theorem ent_21 : EntersF Try.prog 21 := enters_of' Try.func21 (by kernel_rfl) rfl
theorem ent_22 : EntersF Try.prog 22 := enters_of' Try.func22 (by kernel_rfl) rfl
theorem ent_23 : EntersF Try.prog 23 := enters_of' Try.func23 (by kernel_rfl) rfl
theorem ent_24 : EntersF Try.prog 24 := enters_of' Try.func24 (by kernel_rfl) rfl
theorem ent_25 : EntersF Try.prog 25 := enters_of' Try.func25 (by kernel_rfl) rfl
theorem ent_26 : EntersF Try.prog 26 := enters_of' Try.func26 (by kernel_rfl) rfl
theorem ent_27 : EntersF Try.prog 27 := enters_of' Try.func27 (by kernel_rfl) rfl
theorem ent_28 : EntersF Try.prog 28 := enters_of' Try.func28 (by kernel_rfl) rfl
theorem ent_29 : EntersF Try.prog 29 := enters_of' Try.func29 (by kernel_rfl) rfl
theorem ent_30 : EntersF Try.prog 30 := enters_of' Try.func30 (by kernel_rfl) rfl
end Go.Proofs.Ytibcjohofabllaa
