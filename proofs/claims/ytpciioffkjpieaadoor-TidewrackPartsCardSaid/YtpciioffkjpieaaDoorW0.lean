/- Walks, printed by an own program: the machine's calls compute the plain functions. -/
import Derived.Test.YtpciioffkjpieaaDoorZ2
import Derived.Test.YtpciioffkjpieaaDoorD
import Derived.Test.YtpciioffkjpieaaDoorProg
set_option linter.unusedVariables false
set_option linter.unusedSimpArgs false
namespace Go.Proofs.YtpciioffkjpieaaDoor
open Go Go.Proofs.XC
def ET169 : Enc T169 := ⟨2, fun x => [.string x.s, .int .i64 x.e], fun _ => rfl, fun _ => rfl⟩
def tabU : List (Nat × TypeDesc) := [(3, .int .i64), (4, .bool), (5, .int .u8), (9, .string), (40, .slice 3), (41, .slice 9), (75, .slice 87), (77, .struct #[⟨ "Epoch", 3, 0, false, "", "", 0⟩, ⟨ "Kind", 3, 1, false, "", "", 8⟩, ⟨ "Nums", 40, 2, false, "", "", 16⟩, ⟨ "Data", 9, 3, false, "", "", 40⟩]), (78, .int .i64), (82, .map 3 9), (84, .struct #[⟨ "key", 3, 0, false, "", "tidewrack/parts", 0⟩, ⟨ "count", 3, 1, false, "", "tidewrack/parts", 8⟩, ⟨ "parts", 82, 2, false, "", "tidewrack/parts", 16⟩, ⟨ "bytes", 3, 3, false, "", "tidewrack/parts", 24⟩]), (87, .int .u32), (106, .slice 5), (143, .pointer 84), (145, .pointer 147), (147, .struct #[⟨ "addr", 145, 0, false, "", "strings", 0⟩, ⟨ "buf", 106, 1, false, "", "strings", 8⟩]), (170, .struct #[⟨ "s", 9, 0, false, "", "tidewrack/num", 0⟩, ⟨ "e", 78, 1, false, "", "tidewrack/num", 16⟩]), (173, .struct #[⟨ "b", 106, 0, false, "", "tidewrack/num", 0⟩]), (175, .pointer 173), (179, .pointer 5), (190, .unsafePointer), (202, .array 16 87)]
def tabI : List (Nat × (Nat × Nat × Value)) := [(3, (1, 8, (.int .i64 0))), (4, (1, 1, (.bool false))), (5, (1, 1, (.int .u8 0))), (9, (1, 16, (.string ⟨#[]⟩))), (40, (1, 24, (.slice none 0 0))), (77, (4, 56, (.agg #[(.int .i64 0), (.int .i64 0), (.slice none 0 0), (.string ⟨#[]⟩)]))), (78, (1, 8, (.int .i64 0))), (82, (1, 8, (.map none))), (84, (4, 32, (.agg #[(.int .i64 0), (.int .i64 0), (.map none), (.int .i64 0)]))), (87, (1, 4, (.int .u32 0))), (106, (1, 24, (.slice none 0 0))), (143, (1, 8, (.pointer none))), (145, (1, 8, (.pointer none))), (147, (2, 32, (.agg #[(.pointer none), (.slice none 0 0)]))), (170, (2, 24, (.agg #[(.string ⟨#[]⟩), (.int .i64 0)]))), (173, (1, 24, (.agg #[(.slice none 0 0)]))), (175, (1, 8, (.pointer none))), (202, (16, 64, (.agg #[(.int .u32 0), (.int .u32 0), (.int .u32 0), (.int .u32 0), (.int .u32 0), (.int .u32 0), (.int .u32 0), (.int .u32 0), (.int .u32 0), (.int .u32 0), (.int .u32 0), (.int .u32 0), (.int .u32 0), (.int .u32 0), (.int .u32 0), (.int .u32 0)])))]
abbrev T : Tab := ⟨tabU, tabI⟩
theorem tab : TabOK Tryd.prog T := by
  refine ⟨?_, ?_⟩
  · simp only [tabU, List.forall_mem_cons]
    exact ⟨Tryd.underlying3, Tryd.underlying4, Tryd.underlying5, Tryd.underlying9, Tryd.underlying40, Tryd.underlying41, Tryd.underlying75, Tryd.underlying77, Tryd.underlying78, Tryd.underlying82, Tryd.underlying84, Tryd.underlying87, Tryd.underlying106, Tryd.underlying143, Tryd.underlying145, Tryd.underlying147, Tryd.underlying170, Tryd.underlying173, Tryd.underlying175, Tryd.underlying179, Tryd.underlying190, Tryd.underlying202, by simp⟩
  · simp only [tabI, List.forall_mem_cons]
    exact ⟨by kernel_rfl, by kernel_rfl, by kernel_rfl, by kernel_rfl, by kernel_rfl, by kernel_rfl, by kernel_rfl, by kernel_rfl, by kernel_rfl, by kernel_rfl, by kernel_rfl, by kernel_rfl, by kernel_rfl, by kernel_rfl, by kernel_rfl, by kernel_rfl, by kernel_rfl, by kernel_rfl, by simp⟩
theorem mixed : Tryd.prog.follows .mixedOrders = true := by kernel_rfl
theorem ent_10 : EntersF Tryd.prog 10 := enters_of' Tryd.func10 (by kernel_rfl) rfl
theorem ent_27 : EntersF Tryd.prog 27 := enters_of' Tryd.func27 (by kernel_rfl) rfl
theorem ent_28 : EntersF Tryd.prog 28 := enters_of' Tryd.func28 (by kernel_rfl) rfl
theorem ent_29 : EntersF Tryd.prog 29 := enters_of' Tryd.func29 (by kernel_rfl) rfl
theorem ent_30 : EntersF Tryd.prog 30 := enters_of' Tryd.func30 (by kernel_rfl) rfl
theorem ent_31 : EntersF Tryd.prog 31 := enters_of' Tryd.func31 (by kernel_rfl) rfl
theorem ent_32 : EntersF Tryd.prog 32 := enters_of' Tryd.func32 (by kernel_rfl) rfl
theorem ent_33 : EntersF Tryd.prog 33 := enters_of' Tryd.func33 (by kernel_rfl) rfl
theorem ent_34 : EntersF Tryd.prog 34 := enters_of' Tryd.func34 (by kernel_rfl) rfl
theorem ent_35 : EntersF Tryd.prog 35 := enters_of' Tryd.func35 (by kernel_rfl) rfl
theorem ent_61 : EntersF Tryd.prog 61 := enters_of' Tryd.func61 (by kernel_rfl) rfl
theorem ent_62 : EntersF Tryd.prog 62 := enters_of' Tryd.func62 (by kernel_rfl) rfl
theorem ent_63 : EntersF Tryd.prog 63 := enters_of' Tryd.func63 (by kernel_rfl) rfl
theorem ent_64 : EntersF Tryd.prog 64 := enters_of' Tryd.func64 (by kernel_rfl) rfl
theorem ent_65 : EntersF Tryd.prog 65 := enters_of' Tryd.func65 (by kernel_rfl) rfl
theorem ent_66 : EntersF Tryd.prog 66 := enters_of' Tryd.func66 (by kernel_rfl) rfl
theorem ent_67 : EntersF Tryd.prog 67 := enters_of' Tryd.func67 (by kernel_rfl) rfl
theorem ent_68 : EntersF Tryd.prog 68 := enters_of' Tryd.func68 (by kernel_rfl) rfl
theorem ent_69 : EntersF Tryd.prog 69 := enters_of' Tryd.func69 (by kernel_rfl) rfl
theorem ent_70 : EntersF Tryd.prog 70 := enters_of' Tryd.func70 (by kernel_rfl) rfl
theorem ent_71 : EntersF Tryd.prog 71 := enters_of' Tryd.func71 (by kernel_rfl) rfl
theorem ent_91 : EntersF Tryd.prog 91 := enters_of' Tryd.func91 (by kernel_rfl) rfl
theorem ent_92 : EntersF Tryd.prog 92 := enters_of' Tryd.func92 (by kernel_rfl) rfl
theorem ent_93 : EntersF Tryd.prog 93 := enters_of' Tryd.func93 (by kernel_rfl) rfl
theorem ent_94 : EntersF Tryd.prog 94 := enters_of' Tryd.func94 (by kernel_rfl) rfl
theorem ent_95 : EntersF Tryd.prog 95 := enters_of' Tryd.func95 (by kernel_rfl) rfl
theorem ent_96 : EntersF Tryd.prog 96 := enters_of' Tryd.func96 (by kernel_rfl) rfl
theorem ent_97 : EntersF Tryd.prog 97 := enters_of' Tryd.func97 (by kernel_rfl) rfl
theorem ent_98 : EntersF Tryd.prog 98 := enters_of' Tryd.func98 (by kernel_rfl) rfl
theorem ent_99 : EntersF Tryd.prog 99 := enters_of' Tryd.func99 (by kernel_rfl) rfl
theorem ent_100 : EntersF Tryd.prog 100 := enters_of' Tryd.func100 (by kernel_rfl) rfl
theorem ent_101 : EntersF Tryd.prog 101 := enters_of' Tryd.func101 (by kernel_rfl) rfl
theorem ent_111 : EntersF Tryd.prog 111 := enters_of' Tryd.func111 (by kernel_rfl) rfl
theorem ent_112 : EntersF Tryd.prog 112 := enters_of' Tryd.func112 (by kernel_rfl) rfl
theorem ent_113 : EntersF Tryd.prog 113 := enters_of' Tryd.func113 (by kernel_rfl) rfl
theorem ent_114 : EntersF Tryd.prog 114 := enters_of' Tryd.func114 (by kernel_rfl) rfl
theorem ent_120 : EntersF Tryd.prog 120 := enters_of' Tryd.func120 (by kernel_rfl) rfl
theorem ent_121 : EntersF Tryd.prog 121 := enters_of' Tryd.func121 (by kernel_rfl) rfl
end Go.Proofs.YtpciioffkjpieaaDoor
