/- Walks, printed by an own program: the machine's calls compute the plain functions. -/
import Derived.Test.YtjbdijgenhhgaaaY18
import Derived.Test.YtjbdijgenhhgaaaD
import Derived.Test.YtjbdijgenhhgaaaProg
set_option linter.unusedVariables false
set_option linter.unusedSimpArgs false
namespace Go.Proofs.Ytjbdijgenhhgaaa
open Go Go.Proofs.XC
def ET28 : Enc T28 := ⟨2, fun x => [.int .i64 x.From, .int .i64 x.To], fun _ => rfl, fun _ => rfl⟩
def ET35 : Enc T35 := ⟨3, fun x => [.bool x.Cut, .int .i64 x.Span_From, .int .i64 x.Span_To], fun _ => rfl, fun _ => rfl⟩
def tabU : List (Nat × TypeDesc) := [(3, .int .i64), (4, .bool), (22, .slice 30), (24, .slice 29), (26, .struct #[⟨ "l", 24, 0, false, "", "tidewrack/spans", 0⟩]), (29, .struct #[⟨ "From", 3, 0, false, "", "", 0⟩, ⟨ "To", 3, 1, false, "", "", 8⟩]), (30, .struct #[⟨ "From", 3, 0, false, "", "", 0⟩, ⟨ "To", 3, 1, false, "", "", 8⟩]), (34, .slice 36), (36, .struct #[⟨ "Cut", 4, 0, false, "", "", 0⟩, ⟨ "Span", 30, 1, true, "", "", 8⟩]), (43, .pointer 26), (59, .slice 24), (62, .slice 3)]
def tabI : List (Nat × (Nat × Nat × Value)) := [(3, (1, 8, (.int .i64 0))), (4, (1, 1, (.bool false))), (24, (1, 24, (.slice none 0 0))), (26, (1, 24, (.agg #[(.slice none 0 0)]))), (29, (2, 16, (.agg #[(.int .i64 0), (.int .i64 0)]))), (30, (2, 16, (.agg #[(.int .i64 0), (.int .i64 0)]))), (36, (3, 24, (.agg #[(.bool false), (.int .i64 0), (.int .i64 0)])))]
abbrev T : Tab := ⟨tabU, tabI⟩
theorem tab : TabOK Try.prog T := by
  refine ⟨?_, ?_⟩
  · simp only [tabU, List.forall_mem_cons]
    exact ⟨Try.underlying3, Try.underlying4, Try.underlying22, Try.underlying24, Try.underlying26, Try.underlying29, Try.underlying30, Try.underlying34, Try.underlying36, Try.underlying43, Try.underlying59, Try.underlying62, by simp⟩
  · simp only [tabI, List.forall_mem_cons]
    exact ⟨by kernel_rfl, by kernel_rfl, by kernel_rfl, by kernel_rfl, by kernel_rfl, by kernel_rfl, by kernel_rfl, by simp⟩
theorem stood : ∀ t ∈ [29, 30], Try.prog.stoodInHeld t = false ∧ Try.prog.eqGuardType Try.prog.depth t = false := by
  simp only [List.forall_mem_cons]
  exact ⟨⟨by kernel_rfl, by kernel_rfl⟩, ⟨by kernel_rfl, by kernel_rfl⟩, by simp⟩
theorem mixed : Try.prog.follows .mixedOrders = true := by kernel_rfl
theorem ent_8 : EntersF Try.prog 8 := enters_of' Try.func8 (by kernel_rfl) rfl
theorem ent_9 : EntersF Try.prog 9 := enters_of' Try.func9 (by kernel_rfl) rfl
theorem ent_10 : EntersF Try.prog 10 := enters_of' Try.func10 (by kernel_rfl) rfl
theorem ent_11 : EntersF Try.prog 11 := enters_of' Try.func11 (by kernel_rfl) rfl
theorem ent_12 : EntersF Try.prog 12 := enters_of' Try.func12 (by kernel_rfl) rfl
theorem ent_13 : EntersF Try.prog 13 := enters_of' Try.func13 (by kernel_rfl) rfl
theorem ent_14 : EntersF Try.prog 14 := enters_of' Try.func14 (by kernel_rfl) rfl
theorem ent_15 : EntersF Try.prog 15 := enters_of' Try.func15 (by kernel_rfl) rfl
theorem ent_16 : EntersF Try.prog 16 := enters_of' Try.func16 (by kernel_rfl) rfl
theorem ent_17 : EntersF Try.prog 17 := enters_of' Try.func17 (by kernel_rfl) rfl
theorem ent_18 : EntersF Try.prog 18 := enters_of' Try.func18 (by kernel_rfl) rfl
theorem ent_19 : EntersF Try.prog 19 := enters_of' Try.func19 (by kernel_rfl) rfl
theorem ent_20 : EntersF Try.prog 20 := enters_of' Try.func20 (by kernel_rfl) rfl
theorem ent_21 : EntersF Try.prog 21 := enters_of' Try.func21 (by kernel_rfl) rfl
theorem ent_22 : EntersF Try.prog 22 := enters_of' Try.func22 (by kernel_rfl) rfl
theorem ent_23 : EntersF Try.prog 23 := enters_of' Try.func23 (by kernel_rfl) rfl
theorem ent_24 : EntersF Try.prog 24 := enters_of' Try.func24 (by kernel_rfl) rfl
theorem ent_25 : EntersF Try.prog 25 := enters_of' Try.func25 (by kernel_rfl) rfl
theorem ent_26 : EntersF Try.prog 26 := enters_of' Try.func26 (by kernel_rfl) rfl
theorem ent_27 : EntersF Try.prog 27 := enters_of' Try.func27 (by kernel_rfl) rfl
theorem ent_28 : EntersF Try.prog 28 := enters_of' Try.func28 (by kernel_rfl) rfl
theorem ent_29 : EntersF Try.prog 29 := enters_of' Try.func29 (by kernel_rfl) rfl
theorem ent_30 : EntersF Try.prog 30 := enters_of' Try.func30 (by kernel_rfl) rfl
theorem ent_31 : EntersF Try.prog 31 := enters_of' Try.func31 (by kernel_rfl) rfl
theorem ent_32 : EntersF Try.prog 32 := enters_of' Try.func32 (by kernel_rfl) rfl
theorem ent_33 : EntersF Try.prog 33 := enters_of' Try.func33 (by kernel_rfl) rfl
theorem ent_34 : EntersF Try.prog 34 := enters_of' Try.func34 (by kernel_rfl) rfl
theorem ent_35 : EntersF Try.prog 35 := enters_of' Try.func35 (by kernel_rfl) rfl
theorem ent_36 : EntersF Try.prog 36 := enters_of' Try.func36 (by kernel_rfl) rfl
theorem ent_37 : EntersF Try.prog 37 := enters_of' Try.func37 (by kernel_rfl) rfl
theorem ent_38 : EntersF Try.prog 38 := enters_of' Try.func38 (by kernel_rfl) rfl
end Go.Proofs.Ytjbdijgenhhgaaa
