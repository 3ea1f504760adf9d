/- Walks, printed by an own program: the machine's calls compute the plain functions. -/
import Derived.Test.YthacdmompikhgaaY18
import Derived.Test.YthacdmompikhgaaD
import Derived.Test.YthacdmompikhgaaProg
set_option linter.unusedVariables false
set_option linter.unusedSimpArgs false
namespace Go.Proofs.Ythacdmompikhgaa
open Go Go.Proofs.XC
def ET62 : Enc T62 := ⟨2, fun x => [.string x.s, .int .i64 x.e], fun _ => rfl, fun _ => rfl⟩
def ET27 : Enc T27 := ⟨3, fun x => [.int .i64 x.Kind, .int .i64 x.N, .string x.Text], fun _ => rfl, fun _ => rfl⟩
def ET50 : Enc T50 := ⟨2, fun x => [.string x.S, .int .i64 x.E], fun _ => rfl, fun _ => rfl⟩
def tabU : List (Nat × TypeDesc) := [(3, .int .i64), (5, .int .u8), (9, .string), (22, .slice 28), (24, .slice 5), (26, .struct #[⟨ "b", 24, 0, false, "", "tidewrack/num", 0⟩]), (28, .struct #[⟨ "Kind", 3, 0, false, "", "", 0⟩, ⟨ "N", 3, 1, false, "", "", 8⟩, ⟨ "Text", 9, 2, false, "", "", 16⟩]), (30, .pointer 26), (39, .pointer 63), (42, .int .i64), (45, .slice 3), (47, .slice 9), (51, .struct #[⟨ "S", 9, 0, false, "", "", 0⟩, ⟨ "E", 3, 1, false, "", "", 16⟩]), (63, .struct #[⟨ "s", 9, 0, false, "", "tidewrack/num", 0⟩, ⟨ "e", 42, 1, false, "", "tidewrack/num", 16⟩])]
def tabI : List (Nat × (Nat × Nat × Value)) := [(3, (1, 8, (.int .i64 0))), (5, (1, 1, (.int .u8 0))), (9, (1, 16, (.string ⟨#[]⟩))), (24, (1, 24, (.slice none 0 0))), (26, (1, 24, (.agg #[(.slice none 0 0)]))), (28, (3, 32, (.agg #[(.int .i64 0), (.int .i64 0), (.string ⟨#[]⟩)]))), (30, (1, 8, (.pointer none))), (42, (1, 8, (.int .i64 0))), (51, (2, 24, (.agg #[(.string ⟨#[]⟩), (.int .i64 0)]))), (63, (2, 24, (.agg #[(.string ⟨#[]⟩), (.int .i64 0)])))]
abbrev T : Tab := ⟨tabU, tabI⟩
theorem tab : TabOK Try.prog T := by
  refine ⟨?_, ?_⟩
  · simp only [tabU, List.forall_mem_cons]
    exact ⟨Try.underlying3, Try.underlying5, Try.underlying9, Try.underlying22, Try.underlying24, Try.underlying26, Try.underlying28, Try.underlying30, Try.underlying39, Try.underlying42, Try.underlying45, Try.underlying47, Try.underlying51, Try.underlying63, by simp⟩
  · simp only [tabI, List.forall_mem_cons]
    exact ⟨by kernel_rfl, by kernel_rfl, by kernel_rfl, by kernel_rfl, by kernel_rfl, by kernel_rfl, by kernel_rfl, by kernel_rfl, by kernel_rfl, by kernel_rfl, by simp⟩
theorem mixed : Try.prog.follows .mixedOrders = true := by kernel_rfl
theorem ent_9 : EntersF Try.prog 9 := enters_of' Try.func9 (by kernel_rfl) rfl
theorem ent_10 : EntersF Try.prog 10 := enters_of' Try.func10 (by kernel_rfl) rfl
theorem ent_11 : EntersF Try.prog 11 := enters_of' Try.func11 (by kernel_rfl) rfl
theorem ent_12 : EntersF Try.prog 12 := enters_of' Try.func12 (by kernel_rfl) rfl
theorem ent_13 : EntersF Try.prog 13 := enters_of' Try.func13 (by kernel_rfl) rfl
theorem ent_14 : EntersF Try.prog 14 := enters_of' Try.func14 (by kernel_rfl) rfl
theorem ent_15 : EntersF Try.prog 15 := enters_of' Try.func15 (by kernel_rfl) rfl
theorem ent_16 : EntersF Try.prog 16 := enters_of' Try.func16 (by kernel_rfl) rfl
theorem ent_17 : EntersF Try.prog 17 := enters_of' Try.func17 (by kernel_rfl) rfl
theorem ent_18 : EntersF Try.prog 18 := enters_of' Try.func18 (by kernel_rfl) rfl
theorem ent_19 : EntersF Try.prog 19 := enters_of' Try.func19 (by kernel_rfl) rfl
theorem ent_20 : EntersF Try.prog 20 := enters_of' Try.func20 (by kernel_rfl) rfl
theorem ent_21 : EntersF Try.prog 21 := enters_of' Try.func21 (by kernel_rfl) rfl
theorem ent_22 : EntersF Try.prog 22 := enters_of' Try.func22 (by kernel_rfl) rfl
theorem ent_23 : EntersF Try.prog 23 := enters_of' Try.func23 (by kernel_rfl) rfl
theorem ent_24 : EntersF Try.prog 24 := enters_of' Try.func24 (by kernel_rfl) rfl
theorem ent_25 : EntersF Try.prog 25 := enters_of' Try.func25 (by kernel_rfl) rfl
theorem ent_26 : EntersF Try.prog 26 := enters_of' Try.func26 (by kernel_rfl) rfl
theorem ent_27 : EntersF Try.prog 27 := enters_of' Try.func27 (by kernel_rfl) rfl
theorem ent_28 : EntersF Try.prog 28 := enters_of' Try.func28 (by kernel_rfl) rfl
theorem ent_29 : EntersF Try.prog 29 := enters_of' Try.func29 (by kernel_rfl) rfl
theorem ent_30 : EntersF Try.prog 30 := enters_of' Try.func30 (by kernel_rfl) rfl
theorem ent_31 : EntersF Try.prog 31 := enters_of' Try.func31 (by kernel_rfl) rfl
theorem ent_32 : EntersF Try.prog 32 := enters_of' Try.func32 (by kernel_rfl) rfl
theorem ent_33 : EntersF Try.prog 33 := enters_of' Try.func33 (by kernel_rfl) rfl
end Go.Proofs.Ythacdmompikhgaa
