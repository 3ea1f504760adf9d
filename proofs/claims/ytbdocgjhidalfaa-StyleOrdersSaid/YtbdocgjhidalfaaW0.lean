/- Walks, printed by an own program: the machine's calls compute the plain functions. -/
import Derived.Test.YtbdocgjhidalfaaX11
import Derived.Test.YtbdocgjhidalfaaD
import Derived.Test.YtbdocgjhidalfaaProg
set_option linter.unusedVariables false
set_option linter.unusedSimpArgs false
namespace Go.Proofs.Ytbdocgjhidalfaa
open Go Go.Proofs.XC
def ET22 : Enc T22 := ⟨5, fun x => [.int .i64 x.Fore, .int .i64 x.Back, .bool x.Bold, .bool x.Under, .bool x.Inverse], fun _ => rfl, fun _ => rfl⟩
def ET43 : Enc T43 := ⟨2, fun x => [.bool x.is, .int .i64 x.n], fun _ => rfl, fun _ => rfl⟩
def tabU : List (Nat × TypeDesc) := [(3, .int .i64), (4, .bool), (23, .struct #[⟨ "Fore", 3, 0, false, "", "", 0⟩, ⟨ "Back", 3, 1, false, "", "", 8⟩, ⟨ "Bold", 4, 2, false, "", "", 16⟩, ⟨ "Under", 4, 3, false, "", "", 17⟩, ⟨ "Inverse", 4, 4, false, "", "", 18⟩]), (24, .slice 3), (26, .struct #[⟨ "Fore", 3, 0, false, "", "", 0⟩, ⟨ "Back", 3, 1, false, "", "", 8⟩, ⟨ "Bold", 4, 2, false, "", "", 16⟩, ⟨ "Under", 4, 3, false, "", "", 17⟩, ⟨ "Inverse", 4, 4, false, "", "", 18⟩]), (43, .struct #[⟨ "is", 4, 0, false, "", "tidewrack/style", 0⟩, ⟨ "n", 3, 1, false, "", "tidewrack/style", 8⟩]), (44, .slice 43)]
def tabI : List (Nat × (Nat × Nat × Value)) := [(3, (1, 8, (.int .i64 0))), (4, (1, 1, (.bool false))), (23, (5, 24, (.agg #[(.int .i64 0), (.int .i64 0), (.bool false), (.bool false), (.bool false)]))), (26, (5, 24, (.agg #[(.int .i64 0), (.int .i64 0), (.bool false), (.bool false), (.bool false)]))), (43, (2, 16, (.agg #[(.bool false), (.int .i64 0)])))]
abbrev T : Tab := ⟨tabU, tabI⟩
theorem tab : TabOK Try.prog T := by
  refine ⟨?_, ?_⟩
  · simp only [tabU, List.forall_mem_cons]
    exact ⟨Try.underlying3, Try.underlying4, Try.underlying23, Try.underlying24, Try.underlying26, Try.underlying43, Try.underlying44, by simp⟩
  · simp only [tabI, List.forall_mem_cons]
    exact ⟨by kernel_rfl, by kernel_rfl, by kernel_rfl, by kernel_rfl, by kernel_rfl, by simp⟩
theorem stood : ∀ t ∈ [23, 26], Try.prog.stoodInHeld t = false ∧ Try.prog.eqGuardType Try.prog.depth t = false := by
  simp only [List.forall_mem_cons]
  exact ⟨⟨by kernel_rfl, by kernel_rfl⟩, ⟨by kernel_rfl, by kernel_rfl⟩, by simp⟩
theorem mixed : Try.prog.follows .mixedOrders = true := by kernel_rfl
theorem ent_8 : EntersF Try.prog 8 := enters_of' Try.func8 (by kernel_rfl) rfl
theorem ent_9 : EntersF Try.prog 9 := enters_of' Try.func9 (by kernel_rfl) rfl
theorem ent_10 : EntersF Try.prog 10 := enters_of' Try.func10 (by kernel_rfl) rfl
theorem ent_11 : EntersF Try.prog 11 := enters_of' Try.func11 (by kernel_rfl) rfl
theorem ent_12 : EntersF Try.prog 12 := enters_of' Try.func12 (by kernel_rfl) rfl
theorem ent_13 : EntersF Try.prog 13 := enters_of' Try.func13 (by kernel_rfl) rfl
theorem ent_14 : EntersF Try.prog 14 := enters_of' Try.func14 (by kernel_rfl) rfl
theorem ent_15 : EntersF Try.prog 15 := enters_of' Try.func15 (by kernel_rfl) rfl
theorem ent_16 : EntersF Try.prog 16 := enters_of' Try.func16 (by kernel_rfl) rfl
theorem ent_17 : EntersF Try.prog 17 := enters_of' Try.func17 (by kernel_rfl) rfl
theorem ent_18 : EntersF Try.prog 18 := enters_of' Try.func18 (by kernel_rfl) rfl
theorem ent_19 : EntersF Try.prog 19 := enters_of' Try.func19 (by kernel_rfl) rfl
end Go.Proofs.Ytbdocgjhidalfaa
