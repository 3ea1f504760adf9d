/- Walks, printed by an own program: the machine's calls compute the plain functions. -/
import Derived.Test.YtpciioffkjpieaaDoorZ2
import Derived.Test.YtpciioffkjpieaaDoorD
import Derived.Test.YtpciioffkjpieaaDoorProg
set_option linter.unusedVariables false
set_option linter.unusedSimpArgs false
namespace Go.Proofs.YtpciioffkjpieaaDoor
open Go Go.Proofs.XC
def ET192 : Enc T192 := ⟨5, fun x => [.int .u8 x.first, .int .u8 x.last, .int .i64 x.need, .int .u8 x.low, .int .u8 x.high], fun _ => rfl, fun _ => rfl⟩
def ET44 : Enc T44 := ⟨3, fun x => [.int .u8 x.Lead, .int .i32 x.Rune, .int .i64 x.Need], fun _ => rfl, fun _ => rfl⟩
structure NT50 where
  x : T50
  A : Option Addr
  c : Nat
def dT50 : ND T50 := ⟨NT50, ⟨6, fun r => [.int .i64 r.x.Kind, .int .i32 r.x.Rune, .int .u8 r.x.Byte, .bool r.x.Private, .slice r.A (r.x.Nums).length r.c, .string r.x.Text], fun _ => rfl, fun _ => rfl⟩, fun r => r.x, fun r w => RdC (encInt .i64) r.A r.x.Nums w ∧ (r.x.Nums).length ≤ r.c⟩
theorem elT50 {w : World} {o : Nat → Nat} {L F : Nat} {ad : Addr} {xs : List T50} (h : NRd dT50 (some ad) xs w o L F) {i : Int} (hi : 0 ≤ i ∧ i < (xs.length : Int)) :
    ∃ A c, Ft (fun W => CellsAt (ad.add (i.toNat * 6)) [.int .i64 (rdD zT50 xs i).Kind, .int .i32 (rdD zT50 xs i).Rune, .int .u8 (rdD zT50 xs i).Byte, .bool (rdD zT50 xs i).Private, .slice A ((rdD zT50 xs i).Nums).length c, .string (rdD zT50 xs i).Text] W) w o L ∧ Ft (RdC (encInt .i64) A (rdD zT50 xs i).Nums) w o F ∧ ((rdD zT50 xs i).Nums).length ≤ c := by
  obtain ⟨⟨x, A, c⟩, e, hc, hn⟩ := NRd.el h zT50 hi
  have e : x = rdD zT50 xs i := e
  subst e
  exact ⟨A, c, hc, hn.imp fun W hW => hW.1, hn.now.2⟩
def tabU : List (Nat × TypeDesc) := [(3, .int .i64), (4, .bool), (5, .int .u8), (9, .string), (21, .int .i32), (23, .slice 21), (40, .slice 3), (41, .slice 9), (43, .struct #[⟨ "private", 4, 0, false, "", "tidewrack/seq", 0⟩, ⟨ "wrong", 4, 1, false, "", "tidewrack/seq", 1⟩, ⟨ "any", 4, 2, false, "", "tidewrack/seq", 2⟩, ⟨ "some", 4, 3, false, "", "tidewrack/seq", 3⟩, ⟨ "n", 3, 4, false, "", "tidewrack/seq", 8⟩, ⟨ "nums", 40, 5, false, "", "tidewrack/seq", 16⟩]), (45, .struct #[⟨ "Lead", 5, 0, false, "", "", 0⟩, ⟨ "Rune", 21, 1, false, "", "", 4⟩, ⟨ "Need", 3, 2, false, "", "", 8⟩]), (46, .slice 51), (48, .struct #[⟨ "state", 3, 0, false, "", "tidewrack/seq", 0⟩, ⟨ "order", 43, 1, true, "", "tidewrack/seq", 8⟩, ⟨ "text", 9, 7, false, "", "tidewrack/seq", 48⟩, ⟨ "runes", 45, 8, false, "", "tidewrack/seq", 64⟩, ⟨ "out", 46, 11, false, "", "tidewrack/seq", 80⟩]), (51, .struct #[⟨ "Kind", 3, 0, false, "", "", 0⟩, ⟨ "Rune", 21, 1, false, "", "", 8⟩, ⟨ "Byte", 5, 2, false, "", "", 12⟩, ⟨ "Private", 4, 3, false, "", "", 13⟩, ⟨ "Nums", 40, 4, false, "", "", 16⟩, ⟨ "Text", 9, 5, false, "", "", 40⟩]), (106, .slice 5), (193, .struct #[⟨ "first", 5, 0, false, "", "tidewrack/glyph", 0⟩, ⟨ "last", 5, 1, false, "", "tidewrack/glyph", 1⟩, ⟨ "need", 3, 2, false, "", "tidewrack/glyph", 8⟩, ⟨ "low", 5, 3, false, "", "tidewrack/glyph", 16⟩, ⟨ "high", 5, 4, false, "", "tidewrack/glyph", 17⟩]), (203, .array 8 193)]
def tabI : List (Nat × (Nat × Nat × Value)) := [(3, (1, 8, (.int .i64 0))), (4, (1, 1, (.bool false))), (5, (1, 1, (.int .u8 0))), (9, (1, 16, (.string ⟨#[]⟩))), (21, (1, 4, (.int .i32 0))), (40, (1, 24, (.slice none 0 0))), (43, (6, 40, (.agg #[(.bool false), (.bool false), (.bool false), (.bool false), (.int .i64 0), (.slice none 0 0)]))), (45, (3, 16, (.agg #[(.int .u8 0), (.int .i32 0), (.int .i64 0)]))), (46, (1, 24, (.slice none 0 0))), (48, (12, 104, (.agg #[(.int .i64 0), (.bool false), (.bool false), (.bool false), (.bool false), (.int .i64 0), (.slice none 0 0), (.string ⟨#[]⟩), (.int .u8 0), (.int .i32 0), (.int .i64 0), (.slice none 0 0)]))), (51, (6, 56, (.agg #[(.int .i64 0), (.int .i32 0), (.int .u8 0), (.bool false), (.slice none 0 0), (.string ⟨#[]⟩)]))), (193, (5, 24, (.agg #[(.int .u8 0), (.int .u8 0), (.int .i64 0), (.int .u8 0), (.int .u8 0)]))), (203, (40, 192, (.agg #[(.int .u8 0), (.int .u8 0), (.int .i64 0), (.int .u8 0), (.int .u8 0), (.int .u8 0), (.int .u8 0), (.int .i64 0), (.int .u8 0), (.int .u8 0), (.int .u8 0), (.int .u8 0), (.int .i64 0), (.int .u8 0), (.int .u8 0), (.int .u8 0), (.int .u8 0), (.int .i64 0), (.int .u8 0), (.int .u8 0), (.int .u8 0), (.int .u8 0), (.int .i64 0), (.int .u8 0), (.int .u8 0), (.int .u8 0), (.int .u8 0), (.int .i64 0), (.int .u8 0), (.int .u8 0), (.int .u8 0), (.int .u8 0), (.int .i64 0), (.int .u8 0), (.int .u8 0), (.int .u8 0), (.int .u8 0), (.int .i64 0), (.int .u8 0), (.int .u8 0)])))]
abbrev T : Tab := ⟨tabU, tabI⟩
theorem tab : TabOK Tryd.prog T := by
  refine ⟨?_, ?_⟩
  · simp only [tabU, List.forall_mem_cons]
    exact ⟨Tryd.underlying3, Tryd.underlying4, Tryd.underlying5, Tryd.underlying9, Tryd.underlying21, Tryd.underlying23, Tryd.underlying40, Tryd.underlying41, Tryd.underlying43, Tryd.underlying45, Tryd.underlying46, Tryd.underlying48, Tryd.underlying51, Tryd.underlying106, Tryd.underlying193, Tryd.underlying203, by simp⟩
  · simp only [tabI, List.forall_mem_cons]
    exact ⟨by kernel_rfl, by kernel_rfl, by kernel_rfl, by kernel_rfl, by kernel_rfl, by kernel_rfl, by kernel_rfl, by kernel_rfl, by kernel_rfl, by kernel_rfl, by kernel_rfl, by kernel_rfl, by kernel_rfl, by simp⟩
theorem mixed : Tryd.prog.follows .mixedOrders = true := by kernel_rfl
theorem ent_9 : EntersF Tryd.prog 9 := enters_of' Tryd.func9 (by kernel_rfl) rfl
theorem ent_13 : EntersF Tryd.prog 13 := enters_of' Tryd.func13 (by kernel_rfl) rfl
theorem ent_17 : EntersF Tryd.prog 17 := enters_of' Tryd.func17 (by kernel_rfl) rfl
theorem ent_37 : EntersF Tryd.prog 37 := enters_of' Tryd.func37 (by kernel_rfl) rfl
theorem ent_38 : EntersF Tryd.prog 38 := enters_of' Tryd.func38 (by kernel_rfl) rfl
theorem ent_45 : EntersF Tryd.prog 45 := enters_of' Tryd.func45 (by kernel_rfl) rfl
theorem ent_72 : EntersF Tryd.prog 72 := enters_of' Tryd.func72 (by kernel_rfl) rfl
theorem ent_77 : EntersF Tryd.prog 77 := enters_of' Tryd.func77 (by kernel_rfl) rfl
theorem ent_78 : EntersF Tryd.prog 78 := enters_of' Tryd.func78 (by kernel_rfl) rfl
theorem ent_79 : EntersF Tryd.prog 79 := enters_of' Tryd.func79 (by kernel_rfl) rfl
theorem ent_80 : EntersF Tryd.prog 80 := enters_of' Tryd.func80 (by kernel_rfl) rfl
theorem ent_81 : EntersF Tryd.prog 81 := enters_of' Tryd.func81 (by kernel_rfl) rfl
theorem ent_82 : EntersF Tryd.prog 82 := enters_of' Tryd.func82 (by kernel_rfl) rfl
theorem ent_102 : EntersF Tryd.prog 102 := enters_of' Tryd.func102 (by kernel_rfl) rfl
theorem ent_103 : EntersF Tryd.prog 103 := enters_of' Tryd.func103 (by kernel_rfl) rfl
theorem ent_105 : EntersF Tryd.prog 105 := enters_of' Tryd.func105 (by kernel_rfl) rfl
theorem ent_106 : EntersF Tryd.prog 106 := enters_of' Tryd.func106 (by kernel_rfl) rfl
theorem ent_107 : EntersF Tryd.prog 107 := enters_of' Tryd.func107 (by kernel_rfl) rfl
theorem ent_108 : EntersF Tryd.prog 108 := enters_of' Tryd.func108 (by kernel_rfl) rfl
theorem ent_109 : EntersF Tryd.prog 109 := enters_of' Tryd.func109 (by kernel_rfl) rfl
theorem ent_110 : EntersF Tryd.prog 110 := enters_of' Tryd.func110 (by kernel_rfl) rfl
theorem ent_116 : EntersF Tryd.prog 116 := enters_of' Tryd.func116 (by kernel_rfl) rfl
theorem ent_119 : EntersF Tryd.prog 119 := enters_of' Tryd.func119 (by kernel_rfl) rfl
theorem ent_122 : EntersF Tryd.prog 122 := enters_of' Tryd.func122 (by kernel_rfl) rfl
end Go.Proofs.YtpciioffkjpieaaDoor
