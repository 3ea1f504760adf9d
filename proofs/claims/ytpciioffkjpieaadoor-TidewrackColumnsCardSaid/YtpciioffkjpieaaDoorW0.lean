/- Walks, printed by an own program: the machine's calls compute the plain functions. -/
import Derived.Test.YtpciioffkjpieaaDoorY18
import Derived.Test.YtpciioffkjpieaaDoorD
import Derived.Test.YtpciioffkjpieaaDoorProg
set_option linter.unusedVariables false
set_option linter.unusedSimpArgs false
namespace Go.Proofs.YtpciioffkjpieaaDoor
open Go Go.Proofs.XC
def ET97 : Enc T97 := ⟨2, fun x => [.int .i32 x.from_, .int .i32 x.to], fun _ => rfl, fun _ => rfl⟩
def ET192 : Enc T192 := ⟨5, fun x => [.int .u8 x.first, .int .u8 x.last, .int .i64 x.need, .int .u8 x.low, .int .u8 x.high], fun _ => rfl, fun _ => rfl⟩
def ET44 : Enc T44 := ⟨3, fun x => [.int .u8 x.Lead, .int .i32 x.Rune, .int .i64 x.Need], fun _ => rfl, fun _ => rfl⟩
def tabU : List (Nat × TypeDesc) := [(3, .int .i64), (5, .int .u8), (9, .string), (21, .int .i32), (23, .slice 21), (45, .struct #[⟨ "Lead", 5, 0, false, "", "", 0⟩, ⟨ "Rune", 21, 1, false, "", "", 4⟩, ⟨ "Need", 3, 2, false, "", "", 8⟩]), (96, .slice 98), (98, .struct #[⟨ "from", 21, 0, false, "", "tidewrack/wide", 0⟩, ⟨ "to", 21, 1, false, "", "tidewrack/wide", 4⟩]), (99, .array 13 98), (100, .array 14 98), (106, .slice 5), (193, .struct #[⟨ "first", 5, 0, false, "", "tidewrack/glyph", 0⟩, ⟨ "last", 5, 1, false, "", "tidewrack/glyph", 1⟩, ⟨ "need", 3, 2, false, "", "tidewrack/glyph", 8⟩, ⟨ "low", 5, 3, false, "", "tidewrack/glyph", 16⟩, ⟨ "high", 5, 4, false, "", "tidewrack/glyph", 17⟩]), (203, .array 8 193)]
def tabI : List (Nat × (Nat × Nat × Value)) := [(3, (1, 8, (.int .i64 0))), (5, (1, 1, (.int .u8 0))), (21, (1, 4, (.int .i32 0))), (23, (1, 24, (.slice none 0 0))), (45, (3, 16, (.agg #[(.int .u8 0), (.int .i32 0), (.int .i64 0)]))), (98, (2, 8, (.agg #[(.int .i32 0), (.int .i32 0)]))), (99, (26, 104, (.agg #[(.int .i32 0), (.int .i32 0), (.int .i32 0), (.int .i32 0), (.int .i32 0), (.int .i32 0), (.int .i32 0), (.int .i32 0), (.int .i32 0), (.int .i32 0), (.int .i32 0), (.int .i32 0), (.int .i32 0), (.int .i32 0), (.int .i32 0), (.int .i32 0), (.int .i32 0), (.int .i32 0), (.int .i32 0), (.int .i32 0), (.int .i32 0), (.int .i32 0), (.int .i32 0), (.int .i32 0), (.int .i32 0), (.int .i32 0)]))), (100, (28, 112, (.agg #[(.int .i32 0), (.int .i32 0), (.int .i32 0), (.int .i32 0), (.int .i32 0), (.int .i32 0), (.int .i32 0), (.int .i32 0), (.int .i32 0), (.int .i32 0), (.int .i32 0), (.int .i32 0), (.int .i32 0), (.int .i32 0), (.int .i32 0), (.int .i32 0), (.int .i32 0), (.int .i32 0), (.int .i32 0), (.int .i32 0), (.int .i32 0), (.int .i32 0), (.int .i32 0), (.int .i32 0), (.int .i32 0), (.int .i32 0), (.int .i32 0), (.int .i32 0)]))), (193, (5, 24, (.agg #[(.int .u8 0), (.int .u8 0), (.int .i64 0), (.int .u8 0), (.int .u8 0)]))), (203, (40, 192, (.agg #[(.int .u8 0), (.int .u8 0), (.int .i64 0), (.int .u8 0), (.int .u8 0), (.int .u8 0), (.int .u8 0), (.int .i64 0), (.int .u8 0), (.int .u8 0), (.int .u8 0), (.int .u8 0), (.int .i64 0), (.int .u8 0), (.int .u8 0), (.int .u8 0), (.int .u8 0), (.int .i64 0), (.int .u8 0), (.int .u8 0), (.int .u8 0), (.int .u8 0), (.int .i64 0), (.int .u8 0), (.int .u8 0), (.int .u8 0), (.int .u8 0), (.int .i64 0), (.int .u8 0), (.int .u8 0), (.int .u8 0), (.int .u8 0), (.int .i64 0), (.int .u8 0), (.int .u8 0), (.int .u8 0), (.int .u8 0), (.int .i64 0), (.int .u8 0), (.int .u8 0)])))]
abbrev T : Tab := ⟨tabU, tabI⟩
theorem tab : TabOK Tryd.prog T := by
  refine ⟨?_, ?_⟩
  · simp only [tabU, List.forall_mem_cons]
    exact ⟨Tryd.underlying3, Tryd.underlying5, Tryd.underlying9, Tryd.underlying21, Tryd.underlying23, Tryd.underlying45, Tryd.underlying96, Tryd.underlying98, Tryd.underlying99, Tryd.underlying100, Tryd.underlying106, Tryd.underlying193, Tryd.underlying203, by simp⟩
  · simp only [tabI, List.forall_mem_cons]
    exact ⟨by kernel_rfl, by kernel_rfl, by kernel_rfl, by kernel_rfl, by kernel_rfl, by kernel_rfl, by kernel_rfl, by kernel_rfl, by kernel_rfl, by kernel_rfl, by simp⟩
theorem mixed : Tryd.prog.follows .mixedOrders = true := by kernel_rfl
theorem ent_8 : EntersF Tryd.prog 8 := enters_of' Tryd.func8 (by kernel_rfl) rfl
theorem ent_9 : EntersF Tryd.prog 9 := enters_of' Tryd.func9 (by kernel_rfl) rfl
theorem ent_10 : EntersF Tryd.prog 10 := enters_of' Tryd.func10 (by kernel_rfl) rfl
theorem ent_11 : EntersF Tryd.prog 11 := enters_of' Tryd.func11 (by kernel_rfl) rfl
theorem ent_12 : EntersF Tryd.prog 12 := enters_of' Tryd.func12 (by kernel_rfl) rfl
theorem ent_13 : EntersF Tryd.prog 13 := enters_of' Tryd.func13 (by kernel_rfl) rfl
theorem ent_36 : EntersF Tryd.prog 36 := enters_of' Tryd.func36 (by kernel_rfl) rfl
theorem ent_37 : EntersF Tryd.prog 37 := enters_of' Tryd.func37 (by kernel_rfl) rfl
theorem ent_38 : EntersF Tryd.prog 38 := enters_of' Tryd.func38 (by kernel_rfl) rfl
theorem ent_39 : EntersF Tryd.prog 39 := enters_of' Tryd.func39 (by kernel_rfl) rfl
theorem ent_72 : EntersF Tryd.prog 72 := enters_of' Tryd.func72 (by kernel_rfl) rfl
theorem ent_73 : EntersF Tryd.prog 73 := enters_of' Tryd.func73 (by kernel_rfl) rfl
theorem ent_102 : EntersF Tryd.prog 102 := enters_of' Tryd.func102 (by kernel_rfl) rfl
theorem ent_103 : EntersF Tryd.prog 103 := enters_of' Tryd.func103 (by kernel_rfl) rfl
theorem ent_116 : EntersF Tryd.prog 116 := enters_of' Tryd.func116 (by kernel_rfl) rfl
end Go.Proofs.YtpciioffkjpieaaDoor
