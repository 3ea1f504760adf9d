/- Walks, printed by an own program: the machine's calls compute the plain functions. -/
import Derived.Test.YtmolecadkgffkaaDoorZ2
import Derived.Test.YtmolecadkgffkaaDoorD
import Derived.Test.YtmolecadkgffkaaDoorS
import Derived.Test.YtmolecadkgffkaaDoorProg
set_option linter.unusedVariables false
set_option linter.unusedSimpArgs false
namespace Go.Proofs.YtmolecadkgffkaaDoor
open Go Go.Proofs.XC
def ET47 : Enc T47 := ⟨3, fun x => [.string x.word, .int .i64 x.nums, .bool x.text], fun _ => rfl, fun _ => rfl⟩
def tabU : List (Nat × TypeDesc) := [(3, .int .i64), (4, .bool), (5, .int .u8), (9, .string), (21, .int .i32), (24, .slice 3), (26, .struct #[⟨ "Word", 9, 0, false, "", "", 0⟩, ⟨ "Nums", 24, 1, false, "", "", 16⟩, ⟨ "Text", 9, 2, false, "", "", 40⟩]), (30, .struct #[⟨ "Word", 9, 0, false, "", "", 0⟩, ⟨ "Nums", 24, 1, false, "", "", 16⟩, ⟨ "Text", 9, 2, false, "", "", 40⟩]), (39, .slice 9), (48, .struct #[⟨ "word", 9, 0, false, "", "tidewrack/line", 0⟩, ⟨ "nums", 3, 1, false, "", "tidewrack/line", 16⟩, ⟨ "text", 4, 2, false, "", "tidewrack/line", 24⟩]), (53, .slice 5), (58, .array 20 48), (65, .interface #[("Error", 34)]), (70, .pointer 72), (72, .struct #[⟨ "addr", 70, 0, false, "", "strings", 0⟩, ⟨ "buf", 53, 1, false, "", "strings", 8⟩]), (80, .pointer 5), (91, .int .u64), (97, .unsafePointer), (110, .array 20 91)]
def tabI : List (Nat × (Nat × Nat × Value)) := [(3, (1, 8, (.int .i64 0))), (4, (1, 1, (.bool false))), (5, (1, 1, (.int .u8 0))), (9, (1, 16, (.string ⟨#[]⟩))), (24, (1, 24, (.slice none 0 0))), (26, (3, 56, (.agg #[(.string ⟨#[]⟩), (.slice none 0 0), (.string ⟨#[]⟩)]))), (30, (3, 56, (.agg #[(.string ⟨#[]⟩), (.slice none 0 0), (.string ⟨#[]⟩)]))), (48, (3, 32, (.agg #[(.string ⟨#[]⟩), (.int .i64 0), (.bool false)]))), (53, (1, 24, (.slice none 0 0))), (58, (60, 640, (.agg #[(.string ⟨#[]⟩), (.int .i64 0), (.bool false), (.string ⟨#[]⟩), (.int .i64 0), (.bool false), (.string ⟨#[]⟩), (.int .i64 0), (.bool false), (.string ⟨#[]⟩), (.int .i64 0), (.bool false), (.string ⟨#[]⟩), (.int .i64 0), (.bool false), (.string ⟨#[]⟩), (.int .i64 0), (.bool false), (.string ⟨#[]⟩), (.int .i64 0), (.bool false), (.string ⟨#[]⟩), (.int .i64 0), (.bool false), (.string ⟨#[]⟩), (.int .i64 0), (.bool false), (.string ⟨#[]⟩), (.int .i64 0), (.bool false), (.string ⟨#[]⟩), (.int .i64 0), (.bool false), (.string ⟨#[]⟩), (.int .i64 0), (.bool false), (.string ⟨#[]⟩), (.int .i64 0), (.bool false), (.string ⟨#[]⟩), (.int .i64 0), (.bool false), (.string ⟨#[]⟩), (.int .i64 0), (.bool false), (.string ⟨#[]⟩), (.int .i64 0), (.bool false), (.string ⟨#[]⟩), (.int .i64 0), (.bool false), (.string ⟨#[]⟩), (.int .i64 0), (.bool false), (.string ⟨#[]⟩), (.int .i64 0), (.bool false), (.string ⟨#[]⟩), (.int .i64 0), (.bool false)]))), (70, (1, 8, (.pointer none))), (72, (2, 32, (.agg #[(.pointer none), (.slice none 0 0)]))), (91, (1, 8, (.int .u64 0))), (110, (20, 160, (.agg #[(.int .u64 0), (.int .u64 0), (.int .u64 0), (.int .u64 0), (.int .u64 0), (.int .u64 0), (.int .u64 0), (.int .u64 0), (.int .u64 0), (.int .u64 0), (.int .u64 0), (.int .u64 0), (.int .u64 0), (.int .u64 0), (.int .u64 0), (.int .u64 0), (.int .u64 0), (.int .u64 0), (.int .u64 0), (.int .u64 0)])))]
abbrev T : Tab := ⟨tabU, tabI⟩
theorem tab : TabOK Tryd.prog T := by
  refine ⟨?_, ?_⟩
  · simp only [tabU, List.forall_mem_cons]
    exact ⟨Tryd.underlying3, Tryd.underlying4, Tryd.underlying5, Tryd.underlying9, Tryd.underlying21, Tryd.underlying24, Tryd.underlying26, Tryd.underlying30, Tryd.underlying39, Tryd.underlying48, Tryd.underlying53, Tryd.underlying58, Tryd.underlying65, Tryd.underlying70, Tryd.underlying72, Tryd.underlying80, Tryd.underlying91, Tryd.underlying97, Tryd.underlying110, by simp⟩
  · simp only [tabI, List.forall_mem_cons]
    exact ⟨by kernel_rfl, by kernel_rfl, by kernel_rfl, by kernel_rfl, by kernel_rfl, by kernel_rfl, by kernel_rfl, by kernel_rfl, by kernel_rfl, by kernel_rfl, by kernel_rfl, by kernel_rfl, by kernel_rfl, by kernel_rfl, by simp⟩
theorem mixed : Tryd.prog.follows .mixedOrders = true := by kernel_rfl
theorem ent_7 : EntersF Tryd.prog 7 := enters_of' Tryd.func7 (by kernel_rfl) rfl
theorem ent_8 : EntersF Tryd.prog 8 := enters_of' Tryd.func8 (by kernel_rfl) rfl
theorem ent_9 : EntersF Tryd.prog 9 := enters_of' Tryd.func9 (by kernel_rfl) rfl
theorem ent_10 : EntersF Tryd.prog 10 := enters_of' Tryd.func10 (by kernel_rfl) rfl
theorem ent_11 : EntersF Tryd.prog 11 := enters_of' Tryd.func11 (by kernel_rfl) rfl
theorem ent_12 : EntersF Tryd.prog 12 := enters_of' Tryd.func12 (by kernel_rfl) rfl
theorem ent_13 : EntersF Tryd.prog 13 := enters_of' Tryd.func13 (by kernel_rfl) rfl
theorem ent_16 : EntersF Tryd.prog 16 := enters_of' Tryd.func16 (by kernel_rfl) rfl
theorem ent_17 : EntersF Tryd.prog 17 := enters_of' Tryd.func17 (by kernel_rfl) rfl
theorem ent_18 : EntersF Tryd.prog 18 := enters_of' Tryd.func18 (by kernel_rfl) rfl
theorem ent_19 : EntersF Tryd.prog 19 := enters_of' Tryd.func19 (by kernel_rfl) rfl
theorem ent_20 : EntersF Tryd.prog 20 := enters_of' Tryd.func20 (by kernel_rfl) rfl
theorem ent_21 : EntersF Tryd.prog 21 := enters_of' Tryd.func21 (by kernel_rfl) rfl
theorem ent_22 : EntersF Tryd.prog 22 := enters_of' Tryd.func22 (by kernel_rfl) rfl
theorem ent_23 : EntersF Tryd.prog 23 := enters_of' Tryd.func23 (by kernel_rfl) rfl
theorem ent_24 : EntersF Tryd.prog 24 := enters_of' Tryd.func24 (by kernel_rfl) rfl
theorem ent_25 : EntersF Tryd.prog 25 := enters_of' Tryd.func25 (by kernel_rfl) rfl
theorem ent_27 : EntersF Tryd.prog 27 := enters_of' Tryd.func27 (by kernel_rfl) rfl
theorem ent_28 : EntersF Tryd.prog 28 := enters_of' Tryd.func28 (by kernel_rfl) rfl
theorem ent_29 : EntersF Tryd.prog 29 := enters_of' Tryd.func29 (by kernel_rfl) rfl
theorem ent_30 : EntersF Tryd.prog 30 := enters_of' Tryd.func30 (by kernel_rfl) rfl
theorem ent_31 : EntersF Tryd.prog 31 := enters_of' Tryd.func31 (by kernel_rfl) rfl
theorem ent_33 : EntersF Tryd.prog 33 := enters_of' Tryd.func33 (by kernel_rfl) rfl
theorem ent_34 : EntersF Tryd.prog 34 := enters_of' Tryd.func34 (by kernel_rfl) rfl
theorem ent_35 : EntersF Tryd.prog 35 := enters_of' Tryd.func35 (by kernel_rfl) rfl
theorem ent_36 : EntersF Tryd.prog 36 := enters_of' Tryd.func36 (by kernel_rfl) rfl
theorem ent_39 : EntersF Tryd.prog 39 := enters_of' Tryd.func39 (by kernel_rfl) rfl
theorem ent_45 : EntersF Tryd.prog 45 := enters_of' Tryd.func45 (by kernel_rfl) rfl
theorem ent_46 : EntersF Tryd.prog 46 := enters_of' Tryd.func46 (by kernel_rfl) rfl
theorem ent_49 : EntersF Tryd.prog 49 := enters_of' Tryd.func49 (by kernel_rfl) rfl
end Go.Proofs.YtmolecadkgffkaaDoor
