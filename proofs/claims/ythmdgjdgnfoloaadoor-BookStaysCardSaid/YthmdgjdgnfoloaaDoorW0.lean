/- Walks, printed by an own program: the machine's calls compute the plain functions. -/
import Derived.Test.YthmdgjdgnfoloaaDoorY18
import Derived.Test.YthmdgjdgnfoloaaDoorD
import Derived.Test.YthmdgjdgnfoloaaDoorProg
set_option linter.unusedVariables false
set_option linter.unusedSimpArgs false
namespace Go.Proofs.YthmdgjdgnfoloaaDoor
open Go Go.Proofs.XC
def ET49 : Enc T49 := ⟨2, fun x => [.int .i32 x.Rune, .int .i64 x.Style], fun _ => rfl, fun _ => rfl⟩
def ET82 : Enc T82 := ⟨3, fun x => [.int .i32 x.Rune, .int .i64 x.Style, .int .i64 x.Part], fun _ => rfl, fun _ => rfl⟩
structure NT26 where
  x : T26
  A : Option Addr
  c : Nat
def dT26 : ND T26 := ⟨NT26, ⟨2, fun r => [.slice r.A (r.x.Cells).length r.c, .bool r.x.Wrapped], fun _ => rfl, fun _ => rfl⟩, fun r => r.x, fun r w => RdC ET82 r.A r.x.Cells w ∧ (r.x.Cells).length ≤ r.c⟩
theorem elT26 {w : World} {o : Nat → Nat} {L F : Nat} {ad : Addr} {xs : List T26} (h : NRd dT26 (some ad) xs w o L F) {i : Int} (hi : 0 ≤ i ∧ i < (xs.length : Int)) :
    ∃ A c, Ft (fun W => CellsAt (ad.add (i.toNat * 2)) [.slice A ((rdD zT26 xs i).Cells).length c, .bool (rdD zT26 xs i).Wrapped] W) w o L ∧ Ft (RdC ET82 A (rdD zT26 xs i).Cells) w o F ∧ ((rdD zT26 xs i).Cells).length ≤ c := by
  obtain ⟨⟨x, A, c⟩, e, hc, hn⟩ := NRd.el h zT26 hi
  have e : x = rdD zT26 xs i := e
  subst e
  exact ⟨A, c, hc, hn.imp fun W hW => hW.1, hn.now.2⟩
def ET111 : Enc T111 := ⟨2, fun x => [.int .i32 x.from_, .int .i32 x.to], fun _ => rfl, fun _ => rfl⟩
def tabU : List (Nat × TypeDesc) := [(3, .int .i64), (4, .bool), (5, .int .u8), (9, .string), (21, .int .i32), (23, .pointer 76), (25, .slice 83), (27, .struct #[⟨ "Cells", 25, 0, false, "", "", 0⟩, ⟨ "Wrapped", 4, 1, false, "", "", 24⟩]), (40, .slice 50), (47, .slice 27), (50, .struct #[⟨ "Rune", 21, 0, false, "", "", 0⟩, ⟨ "Style", 3, 1, false, "", "", 8⟩]), (53, .slice 3), (74, .slice 40), (76, .struct #[⟨ "l", 74, 0, false, "", "tidewrack/book", 0⟩, ⟨ "chains", 53, 1, false, "", "tidewrack/book", 24⟩, ⟨ "begun", 40, 2, false, "", "tidewrack/book", 48⟩]), (83, .struct #[⟨ "Rune", 21, 0, false, "", "", 0⟩, ⟨ "Style", 3, 1, false, "", "", 8⟩, ⟨ "Part", 3, 2, false, "", "", 16⟩]), (93, .slice 5), (95, .struct #[⟨ "b", 93, 0, false, "", "tidewrack/num", 0⟩]), (96, .pointer 95), (110, .slice 112), (112, .struct #[⟨ "from", 21, 0, false, "", "tidewrack/wide", 0⟩, ⟨ "to", 21, 1, false, "", "tidewrack/wide", 4⟩]), (113, .array 13 112), (114, .array 14 112), (116, .int .u64), (119, .int .u32), (124, .int .u64), (127, .slice 9), (129, .array 16 119)]
def tabI : List (Nat × (Nat × Nat × Value)) := [(3, (1, 8, (.int .i64 0))), (4, (1, 1, (.bool false))), (5, (1, 1, (.int .u8 0))), (9, (1, 16, (.string ⟨#[]⟩))), (21, (1, 4, (.int .i32 0))), (25, (1, 24, (.slice none 0 0))), (27, (2, 32, (.agg #[(.slice none 0 0), (.bool false)]))), (40, (1, 24, (.slice none 0 0))), (47, (1, 24, (.slice none 0 0))), (50, (2, 16, (.agg #[(.int .i32 0), (.int .i64 0)]))), (53, (1, 24, (.slice none 0 0))), (74, (1, 24, (.slice none 0 0))), (76, (3, 72, (.agg #[(.slice none 0 0), (.slice none 0 0), (.slice none 0 0)]))), (83, (3, 24, (.agg #[(.int .i32 0), (.int .i64 0), (.int .i64 0)]))), (93, (1, 24, (.slice none 0 0))), (95, (1, 24, (.agg #[(.slice none 0 0)]))), (96, (1, 8, (.pointer none))), (112, (2, 8, (.agg #[(.int .i32 0), (.int .i32 0)]))), (113, (26, 104, (.agg #[(.int .i32 0), (.int .i32 0), (.int .i32 0), (.int .i32 0), (.int .i32 0), (.int .i32 0), (.int .i32 0), (.int .i32 0), (.int .i32 0), (.int .i32 0), (.int .i32 0), (.int .i32 0), (.int .i32 0), (.int .i32 0), (.int .i32 0), (.int .i32 0), (.int .i32 0), (.int .i32 0), (.int .i32 0), (.int .i32 0), (.int .i32 0), (.int .i32 0), (.int .i32 0), (.int .i32 0), (.int .i32 0), (.int .i32 0)]))), (114, (28, 112, (.agg #[(.int .i32 0), (.int .i32 0), (.int .i32 0), (.int .i32 0), (.int .i32 0), (.int .i32 0), (.int .i32 0), (.int .i32 0), (.int .i32 0), (.int .i32 0), (.int .i32 0), (.int .i32 0), (.int .i32 0), (.int .i32 0), (.int .i32 0), (.int .i32 0), (.int .i32 0), (.int .i32 0), (.int .i32 0), (.int .i32 0), (.int .i32 0), (.int .i32 0), (.int .i32 0), (.int .i32 0), (.int .i32 0), (.int .i32 0), (.int .i32 0), (.int .i32 0)]))), (119, (1, 4, (.int .u32 0))), (129, (16, 64, (.agg #[(.int .u32 0), (.int .u32 0), (.int .u32 0), (.int .u32 0), (.int .u32 0), (.int .u32 0), (.int .u32 0), (.int .u32 0), (.int .u32 0), (.int .u32 0), (.int .u32 0), (.int .u32 0), (.int .u32 0), (.int .u32 0), (.int .u32 0), (.int .u32 0)])))]
abbrev T : Tab := ⟨tabU, tabI⟩
theorem tab : TabOK Tryd.prog T := by
  refine ⟨?_, ?_⟩
  · simp only [tabU, List.forall_mem_cons]
    exact ⟨Tryd.underlying3, Tryd.underlying4, Tryd.underlying5, Tryd.underlying9, Tryd.underlying21, Tryd.underlying23, Tryd.underlying25, Tryd.underlying27, Tryd.underlying40, Tryd.underlying47, Tryd.underlying50, Tryd.underlying53, Tryd.underlying74, Tryd.underlying76, Tryd.underlying83, Tryd.underlying93, Tryd.underlying95, Tryd.underlying96, Tryd.underlying110, Tryd.underlying112, Tryd.underlying113, Tryd.underlying114, Tryd.underlying116, Tryd.underlying119, Tryd.underlying124, Tryd.underlying127, Tryd.underlying129, by simp⟩
  · simp only [tabI, List.forall_mem_cons]
    exact ⟨by kernel_rfl, by kernel_rfl, by kernel_rfl, by kernel_rfl, by kernel_rfl, by kernel_rfl, by kernel_rfl, by kernel_rfl, by kernel_rfl, by kernel_rfl, by kernel_rfl, by kernel_rfl, by kernel_rfl, by kernel_rfl, by kernel_rfl, by kernel_rfl, by kernel_rfl, by kernel_rfl, by kernel_rfl, by kernel_rfl, by kernel_rfl, by kernel_rfl, by simp⟩
theorem stood : ∀ t ∈ [50, 83], Tryd.prog.stoodInHeld t = false ∧ Tryd.prog.eqGuardType Tryd.prog.depth t = false := by
  simp only [List.forall_mem_cons]
  exact ⟨⟨by kernel_rfl, by kernel_rfl⟩, ⟨by kernel_rfl, by kernel_rfl⟩, by simp⟩
theorem mixed : Tryd.prog.follows .mixedOrders = true := by kernel_rfl
theorem ent_9 : EntersF Tryd.prog 9 := enters_of' Tryd.func9 (by kernel_rfl) rfl
theorem ent_10 : EntersF Tryd.prog 10 := enters_of' Tryd.func10 (by kernel_rfl) rfl
theorem ent_11 : EntersF Tryd.prog 11 := enters_of' Tryd.func11 (by kernel_rfl) rfl
theorem ent_12 : EntersF Tryd.prog 12 := enters_of' Tryd.func12 (by kernel_rfl) rfl
theorem ent_15 : EntersF Tryd.prog 15 := enters_of' Tryd.func15 (by kernel_rfl) rfl
theorem ent_16 : EntersF Tryd.prog 16 := enters_of' Tryd.func16 (by kernel_rfl) rfl
theorem ent_17 : EntersF Tryd.prog 17 := enters_of' Tryd.func17 (by kernel_rfl) rfl
theorem ent_19 : EntersF Tryd.prog 19 := enters_of' Tryd.func19 (by kernel_rfl) rfl
theorem ent_20 : EntersF Tryd.prog 20 := enters_of' Tryd.func20 (by kernel_rfl) rfl
theorem ent_21 : EntersF Tryd.prog 21 := enters_of' Tryd.func21 (by kernel_rfl) rfl
theorem ent_29 : EntersF Tryd.prog 29 := enters_of' Tryd.func29 (by kernel_rfl) rfl
theorem ent_32 : EntersF Tryd.prog 32 := enters_of' Tryd.func32 (by kernel_rfl) rfl
theorem ent_33 : EntersF Tryd.prog 33 := enters_of' Tryd.func33 (by kernel_rfl) rfl
theorem ent_34 : EntersF Tryd.prog 34 := enters_of' Tryd.func34 (by kernel_rfl) rfl
theorem ent_35 : EntersF Tryd.prog 35 := enters_of' Tryd.func35 (by kernel_rfl) rfl
theorem ent_36 : EntersF Tryd.prog 36 := enters_of' Tryd.func36 (by kernel_rfl) rfl
theorem ent_38 : EntersF Tryd.prog 38 := enters_of' Tryd.func38 (by kernel_rfl) rfl
theorem ent_39 : EntersF Tryd.prog 39 := enters_of' Tryd.func39 (by kernel_rfl) rfl
theorem ent_42 : EntersF Tryd.prog 42 := enters_of' Tryd.func42 (by kernel_rfl) rfl
theorem ent_43 : EntersF Tryd.prog 43 := enters_of' Tryd.func43 (by kernel_rfl) rfl
theorem ent_45 : EntersF Tryd.prog 45 := enters_of' Tryd.func45 (by kernel_rfl) rfl
theorem ent_46 : EntersF Tryd.prog 46 := enters_of' Tryd.func46 (by kernel_rfl) rfl
theorem ent_47 : EntersF Tryd.prog 47 := enters_of' Tryd.func47 (by kernel_rfl) rfl
theorem ent_48 : EntersF Tryd.prog 48 := enters_of' Tryd.func48 (by kernel_rfl) rfl
theorem ent_49 : EntersF Tryd.prog 49 := enters_of' Tryd.func49 (by kernel_rfl) rfl
theorem ent_52 : EntersF Tryd.prog 52 := enters_of' Tryd.func52 (by kernel_rfl) rfl
theorem ent_53 : EntersF Tryd.prog 53 := enters_of' Tryd.func53 (by kernel_rfl) rfl
theorem ent_54 : EntersF Tryd.prog 54 := enters_of' Tryd.func54 (by kernel_rfl) rfl
theorem ent_55 : EntersF Tryd.prog 55 := enters_of' Tryd.func55 (by kernel_rfl) rfl
theorem ent_56 : EntersF Tryd.prog 56 := enters_of' Tryd.func56 (by kernel_rfl) rfl
theorem ent_57 : EntersF Tryd.prog 57 := enters_of' Tryd.func57 (by kernel_rfl) rfl
theorem ent_58 : EntersF Tryd.prog 58 := enters_of' Tryd.func58 (by kernel_rfl) rfl
theorem ent_59 : EntersF Tryd.prog 59 := enters_of' Tryd.func59 (by kernel_rfl) rfl
theorem ent_61 : EntersF Tryd.prog 61 := enters_of' Tryd.func61 (by kernel_rfl) rfl
theorem ent_62 : EntersF Tryd.prog 62 := enters_of' Tryd.func62 (by kernel_rfl) rfl
end Go.Proofs.YthmdgjdgnfoloaaDoor
