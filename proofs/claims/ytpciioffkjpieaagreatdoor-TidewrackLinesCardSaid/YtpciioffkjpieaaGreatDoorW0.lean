/- Walks, printed by an own program: the machine's calls compute the plain functions. -/
import Derived.Test.YtpciioffkjpieaaGreatDoorZ2
import Derived.Test.YtpciioffkjpieaaGreatDoorD
import Derived.Test.YtpciioffkjpieaaGreatDoorProg
set_option linter.unusedVariables false
set_option linter.unusedSimpArgs false
namespace Go.Proofs.YtpciioffkjpieaaGreatDoor
open Go Go.Proofs.XC
def ET77 : Enc T77 := ⟨3, fun x => [.int .i32 x.Rune, .int .i64 x.Style, .int .i64 x.Part], fun _ => rfl, fun _ => rfl⟩
structure NT65 where
  x : T65
  A : Option Addr
  c : Nat
def dT65 : ND T65 := ⟨NT65, ⟨2, fun r => [.slice r.A (r.x.Cells).length r.c, .bool r.x.Wrapped], fun _ => rfl, fun _ => rfl⟩, fun r => r.x, fun r w => RdC ET77 r.A r.x.Cells w ∧ (r.x.Cells).length ≤ r.c⟩
theorem elT65 {w : World} {o : Nat → Nat} {L F : Nat} {ad : Addr} {xs : List T65} (h : NRd dT65 (some ad) xs w o L F) {i : Int} (hi : 0 ≤ i ∧ i < (xs.length : Int)) :
    ∃ A c, Ft (fun W => CellsAt (ad.add (i.toNat * 2)) [.slice A ((rdD zT65 xs i).Cells).length c, .bool (rdD zT65 xs i).Wrapped] W) w o L ∧ Ft (RdC ET77 A (rdD zT65 xs i).Cells) w o F ∧ ((rdD zT65 xs i).Cells).length ≤ c := by
  obtain ⟨⟨x, A, c⟩, e, hc, hn⟩ := NRd.el h zT65 hi
  have e : x = rdD zT65 xs i := e
  subst e
  exact ⟨A, c, hc, hn.imp fun W hW => hW.1, hn.now.2⟩
def ET46 : Enc T46 := ⟨2, fun x => [.int .i32 x.Rune, .int .i64 x.Style], fun _ => rfl, fun _ => rfl⟩
def ET30 : Enc T30 := ⟨3, fun x => [.int .u8 x.Lead, .int .i32 x.Rune, .int .i64 x.Need], fun _ => rfl, fun _ => rfl⟩
structure NT37 where
  x : T37
  A : Option Addr
  c : Nat
def dT37 : ND T37 := ⟨NT37, ⟨6, fun r => [.int .i64 r.x.Kind, .int .i32 r.x.Rune, .int .u8 r.x.Byte, .bool r.x.Private, .slice r.A (r.x.Nums).length r.c, .string r.x.Text], fun _ => rfl, fun _ => rfl⟩, fun r => r.x, fun r w => RdC (encInt .i64) r.A r.x.Nums w ∧ (r.x.Nums).length ≤ r.c⟩
theorem elT37 {w : World} {o : Nat → Nat} {L F : Nat} {ad : Addr} {xs : List T37} (h : NRd dT37 (some ad) xs w o L F) {i : Int} (hi : 0 ≤ i ∧ i < (xs.length : Int)) :
    ∃ A c, Ft (fun W => CellsAt (ad.add (i.toNat * 6)) [.int .i64 (rdD zT37 xs i).Kind, .int .i32 (rdD zT37 xs i).Rune, .int .u8 (rdD zT37 xs i).Byte, .bool (rdD zT37 xs i).Private, .slice A ((rdD zT37 xs i).Nums).length c, .string (rdD zT37 xs i).Text] W) w o L ∧ Ft (RdC (encInt .i64) A (rdD zT37 xs i).Nums) w o F ∧ ((rdD zT37 xs i).Nums).length ≤ c := by
  obtain ⟨⟨x, A, c⟩, e, hc, hn⟩ := NRd.el h zT37 hi
  have e : x = rdD zT37 xs i := e
  subst e
  exact ⟨A, c, hc, hn.imp fun W hW => hW.1, hn.now.2⟩
def ET141 : Enc T141 := ⟨5, fun x => [.int .u8 x.first, .int .u8 x.last, .int .i64 x.need, .int .u8 x.low, .int .u8 x.high], fun _ => rfl, fun _ => rfl⟩
def ET109 : Enc T109 := ⟨2, fun x => [.int .i32 x.from_, .int .i32 x.to], fun _ => rfl, fun _ => rfl⟩
def ET51 : Enc T51 := ⟨5, fun x => [.int .i64 x.Fore, .int .i64 x.Back, .bool x.Bold, .bool x.Under, .bool x.Inverse], fun _ => rfl, fun _ => rfl⟩
def tabU : List (Nat × TypeDesc) := [(3, .int .i64), (4, .bool), (5, .int .u8), (9, .string), (21, .int .i32), (22, .slice 9), (23, .pointer 56), (25, .pointer 61), (27, .slice 3), (31, .struct #[⟨ "Lead", 5, 0, false, "", "", 0⟩, ⟨ "Rune", 21, 1, false, "", "", 4⟩, ⟨ "Need", 3, 2, false, "", "", 8⟩]), (32, .slice 38), (34, .struct #[⟨ "state", 3, 0, false, "", "tidewrack/seq", 0⟩, ⟨ "order", 29, 1, true, "", "tidewrack/seq", 8⟩, ⟨ "text", 9, 7, false, "", "tidewrack/seq", 48⟩, ⟨ "runes", 31, 8, false, "", "tidewrack/seq", 64⟩, ⟨ "out", 32, 11, false, "", "tidewrack/seq", 80⟩]), (35, .slice 5), (38, .struct #[⟨ "Kind", 3, 0, false, "", "", 0⟩, ⟨ "Rune", 21, 1, false, "", "", 8⟩, ⟨ "Byte", 5, 2, false, "", "", 12⟩, ⟨ "Private", 4, 3, false, "", "", 13⟩, ⟨ "Nums", 27, 4, false, "", "", 16⟩, ⟨ "Text", 9, 5, false, "", "", 40⟩]), (40, .slice 66), (43, .slice 47), (47, .struct #[⟨ "Rune", 21, 0, false, "", "", 0⟩, ⟨ "Style", 3, 1, false, "", "", 8⟩]), (49, .pointer 75), (52, .struct #[⟨ "Fore", 3, 0, false, "", "", 0⟩, ⟨ "Back", 3, 1, false, "", "", 8⟩, ⟨ "Bold", 4, 2, false, "", "", 16⟩, ⟨ "Under", 4, 3, false, "", "", 17⟩, ⟨ "Inverse", 4, 4, false, "", "", 18⟩]), (54, .struct #[⟨ "x", 3, 0, false, "", "tidewrack/screen", 0⟩, ⟨ "y", 3, 1, false, "", "tidewrack/screen", 8⟩, ⟨ "style", 52, 2, false, "", "tidewrack/screen", 16⟩]), (56, .struct #[⟨ "g", 49, 0, false, "", "tidewrack/screen", 0⟩, ⟨ "spot", 54, 1, true, "", "tidewrack/screen", 8⟩, ⟨ "saved", 54, 8, false, "", "tidewrack/screen", 48⟩, ⟨ "waiting", 4, 15, false, "", "tidewrack/screen", 88⟩, ⟨ "top", 3, 16, false, "", "tidewrack/screen", 96⟩, ⟨ "bottom", 3, 17, false, "", "tidewrack/screen", 104⟩, ⟨ "wraps", 4, 18, false, "", "tidewrack/screen", 112⟩, ⟨ "title", 9, 19, false, "", "tidewrack/screen", 120⟩]), (59, .slice 43), (61, .struct #[⟨ "l", 59, 0, false, "", "tidewrack/book", 0⟩, ⟨ "chains", 27, 1, false, "", "tidewrack/book", 24⟩, ⟨ "begun", 43, 2, false, "", "tidewrack/book", 48⟩]), (64, .slice 78), (66, .struct #[⟨ "Cells", 64, 0, false, "", "", 0⟩, ⟨ "Wrapped", 4, 1, false, "", "", 24⟩]), (75, .struct #[⟨ "w", 3, 0, false, "", "tidewrack/grid", 0⟩, ⟨ "l", 40, 1, false, "", "tidewrack/grid", 8⟩]), (78, .struct #[⟨ "Rune", 21, 0, false, "", "", 0⟩, ⟨ "Style", 3, 1, false, "", "", 8⟩, ⟨ "Part", 3, 2, false, "", "", 16⟩]), (97, .slice 21), (104, .int .u32), (108, .slice 110), (110, .struct #[⟨ "from", 21, 0, false, "", "tidewrack/wide", 0⟩, ⟨ "to", 21, 1, false, "", "tidewrack/wide", 4⟩]), (111, .array 13 110), (112, .array 14 110), (125, .int .u64), (129, .struct #[⟨ "b", 35, 0, false, "", "tidewrack/num", 0⟩]), (130, .pointer 129), (142, .struct #[⟨ "first", 5, 0, false, "", "tidewrack/glyph", 0⟩, ⟨ "last", 5, 1, false, "", "tidewrack/glyph", 1⟩, ⟨ "need", 3, 2, false, "", "tidewrack/glyph", 8⟩, ⟨ "low", 5, 3, false, "", "tidewrack/glyph", 16⟩, ⟨ "high", 5, 4, false, "", "tidewrack/glyph", 17⟩]), (146, .array 16 104), (152, .int .u64), (155, .array 8 142)]
def tabI : List (Nat × (Nat × Nat × Value)) := [(3, (1, 8, (.int .i64 0))), (4, (1, 1, (.bool false))), (5, (1, 1, (.int .u8 0))), (9, (1, 16, (.string ⟨#[]⟩))), (21, (1, 4, (.int .i32 0))), (23, (1, 8, (.pointer none))), (27, (1, 24, (.slice none 0 0))), (31, (3, 16, (.agg #[(.int .u8 0), (.int .i32 0), (.int .i64 0)]))), (32, (1, 24, (.slice none 0 0))), (34, (12, 104, (.agg #[(.int .i64 0), (.bool false), (.bool false), (.bool false), (.bool false), (.int .i64 0), (.slice none 0 0), (.string ⟨#[]⟩), (.int .u8 0), (.int .i32 0), (.int .i64 0), (.slice none 0 0)]))), (35, (1, 24, (.slice none 0 0))), (38, (6, 56, (.agg #[(.int .i64 0), (.int .i32 0), (.int .u8 0), (.bool false), (.slice none 0 0), (.string ⟨#[]⟩)]))), (40, (1, 24, (.slice none 0 0))), (43, (1, 24, (.slice none 0 0))), (47, (2, 16, (.agg #[(.int .i32 0), (.int .i64 0)]))), (49, (1, 8, (.pointer none))), (52, (5, 24, (.agg #[(.int .i64 0), (.int .i64 0), (.bool false), (.bool false), (.bool false)]))), (54, (7, 40, (.agg #[(.int .i64 0), (.int .i64 0), (.int .i64 0), (.int .i64 0), (.bool false), (.bool false), (.bool false)]))), (56, (20, 136, (.agg #[(.pointer none), (.int .i64 0), (.int .i64 0), (.int .i64 0), (.int .i64 0), (.bool false), (.bool false), (.bool false), (.int .i64 0), (.int .i64 0), (.int .i64 0), (.int .i64 0), (.bool false), (.bool false), (.bool false), (.bool false), (.int .i64 0), (.int .i64 0), (.bool false), (.string ⟨#[]⟩)]))), (59, (1, 24, (.slice none 0 0))), (61, (3, 72, (.agg #[(.slice none 0 0), (.slice none 0 0), (.slice none 0 0)]))), (64, (1, 24, (.slice none 0 0))), (66, (2, 32, (.agg #[(.slice none 0 0), (.bool false)]))), (75, (2, 32, (.agg #[(.int .i64 0), (.slice none 0 0)]))), (78, (3, 24, (.agg #[(.int .i32 0), (.int .i64 0), (.int .i64 0)]))), (104, (1, 4, (.int .u32 0))), (110, (2, 8, (.agg #[(.int .i32 0), (.int .i32 0)]))), (111, (26, 104, (.agg #[(.int .i32 0), (.int .i32 0), (.int .i32 0), (.int .i32 0), (.int .i32 0), (.int .i32 0), (.int .i32 0), (.int .i32 0), (.int .i32 0), (.int .i32 0), (.int .i32 0), (.int .i32 0), (.int .i32 0), (.int .i32 0), (.int .i32 0), (.int .i32 0), (.int .i32 0), (.int .i32 0), (.int .i32 0), (.int .i32 0), (.int .i32 0), (.int .i32 0), (.int .i32 0), (.int .i32 0), (.int .i32 0), (.int .i32 0)]))), (112, (28, 112, (.agg #[(.int .i32 0), (.int .i32 0), (.int .i32 0), (.int .i32 0), (.int .i32 0), (.int .i32 0), (.int .i32 0), (.int .i32 0), (.int .i32 0), (.int .i32 0), (.int .i32 0), (.int .i32 0), (.int .i32 0), (.int .i32 0), (.int .i32 0), (.int .i32 0), (.int .i32 0), (.int .i32 0), (.int .i32 0), (.int .i32 0), (.int .i32 0), (.int .i32 0), (.int .i32 0), (.int .i32 0), (.int .i32 0), (.int .i32 0), (.int .i32 0), (.int .i32 0)]))), (129, (1, 24, (.agg #[(.slice none 0 0)]))), (130, (1, 8, (.pointer none))), (142, (5, 24, (.agg #[(.int .u8 0), (.int .u8 0), (.int .i64 0), (.int .u8 0), (.int .u8 0)]))), (146, (16, 64, (.agg #[(.int .u32 0), (.int .u32 0), (.int .u32 0), (.int .u32 0), (.int .u32 0), (.int .u32 0), (.int .u32 0), (.int .u32 0), (.int .u32 0), (.int .u32 0), (.int .u32 0), (.int .u32 0), (.int .u32 0), (.int .u32 0), (.int .u32 0), (.int .u32 0)]))), (155, (40, 192, (.agg #[(.int .u8 0), (.int .u8 0), (.int .i64 0), (.int .u8 0), (.int .u8 0), (.int .u8 0), (.int .u8 0), (.int .i64 0), (.int .u8 0), (.int .u8 0), (.int .u8 0), (.int .u8 0), (.int .i64 0), (.int .u8 0), (.int .u8 0), (.int .u8 0), (.int .u8 0), (.int .i64 0), (.int .u8 0), (.int .u8 0), (.int .u8 0), (.int .u8 0), (.int .i64 0), (.int .u8 0), (.int .u8 0), (.int .u8 0), (.int .u8 0), (.int .i64 0), (.int .u8 0), (.int .u8 0), (.int .u8 0), (.int .u8 0), (.int .i64 0), (.int .u8 0), (.int .u8 0), (.int .u8 0), (.int .u8 0), (.int .i64 0), (.int .u8 0), (.int .u8 0)])))]
abbrev T : Tab := ⟨tabU, tabI⟩
theorem tab : TabOK Tryz.prog T := by
  refine ⟨?_, ?_⟩
  · simp only [tabU, List.forall_mem_cons]
    exact ⟨Tryz.underlying3, Tryz.underlying4, Tryz.underlying5, Tryz.underlying9, Tryz.underlying21, Tryz.underlying22, Tryz.underlying23, Tryz.underlying25, Tryz.underlying27, Tryz.underlying31, Tryz.underlying32, Tryz.underlying34, Tryz.underlying35, Tryz.underlying38, Tryz.underlying40, Tryz.underlying43, Tryz.underlying47, Tryz.underlying49, Tryz.underlying52, Tryz.underlying54, Tryz.underlying56, Tryz.underlying59, Tryz.underlying61, Tryz.underlying64, Tryz.underlying66, Tryz.underlying75, Tryz.underlying78, Tryz.underlying97, Tryz.underlying104, Tryz.underlying108, Tryz.underlying110, Tryz.underlying111, Tryz.underlying112, Tryz.underlying125, Tryz.underlying129, Tryz.underlying130, Tryz.underlying142, Tryz.underlying146, Tryz.underlying152, Tryz.underlying155, by simp⟩
  · simp only [tabI, List.forall_mem_cons]
    exact ⟨by kernel_rfl, by kernel_rfl, by kernel_rfl, by kernel_rfl, by kernel_rfl, by kernel_rfl, by kernel_rfl, by kernel_rfl, by kernel_rfl, by kernel_rfl, by kernel_rfl, by kernel_rfl, by kernel_rfl, by kernel_rfl, by kernel_rfl, by kernel_rfl, by kernel_rfl, by kernel_rfl, by kernel_rfl, by kernel_rfl, by kernel_rfl, by kernel_rfl, by kernel_rfl, by kernel_rfl, by kernel_rfl, by kernel_rfl, by kernel_rfl, by kernel_rfl, by kernel_rfl, by kernel_rfl, by kernel_rfl, by kernel_rfl, by kernel_rfl, by kernel_rfl, by simp⟩
theorem stood : ∀ t ∈ [78], Tryz.prog.stoodInHeld t = false ∧ Tryz.prog.eqGuardType Tryz.prog.depth t = false := by
  simp only [List.forall_mem_cons]
  exact ⟨⟨by kernel_rfl, by kernel_rfl⟩, by simp⟩
theorem mixed : Tryz.prog.follows .mixedOrders = true := by kernel_rfl
theorem ent_4 : EntersF Tryz.prog 4 := enters_of' Tryz.func4 (by kernel_rfl) rfl
theorem ent_5 : EntersF Tryz.prog 5 := enters_of' Tryz.func5 (by kernel_rfl) rfl
theorem ent_6 : EntersF Tryz.prog 6 := enters_of' Tryz.func6 (by kernel_rfl) rfl
theorem ent_7 : EntersF Tryz.prog 7 := enters_of' Tryz.func7 (by kernel_rfl) rfl
theorem ent_8 : EntersF Tryz.prog 8 := enters_of' Tryz.func8 (by kernel_rfl) rfl
theorem ent_9 : EntersF Tryz.prog 9 := enters_of' Tryz.func9 (by kernel_rfl) rfl
theorem ent_10 : EntersF Tryz.prog 10 := enters_of' Tryz.func10 (by kernel_rfl) rfl
theorem ent_11 : EntersF Tryz.prog 11 := enters_of' Tryz.func11 (by kernel_rfl) rfl
theorem ent_12 : EntersF Tryz.prog 12 := enters_of' Tryz.func12 (by kernel_rfl) rfl
theorem ent_13 : EntersF Tryz.prog 13 := enters_of' Tryz.func13 (by kernel_rfl) rfl
theorem ent_14 : EntersF Tryz.prog 14 := enters_of' Tryz.func14 (by kernel_rfl) rfl
theorem ent_15 : EntersF Tryz.prog 15 := enters_of' Tryz.func15 (by kernel_rfl) rfl
theorem ent_16 : EntersF Tryz.prog 16 := enters_of' Tryz.func16 (by kernel_rfl) rfl
theorem ent_17 : EntersF Tryz.prog 17 := enters_of' Tryz.func17 (by kernel_rfl) rfl
theorem ent_18 : EntersF Tryz.prog 18 := enters_of' Tryz.func18 (by kernel_rfl) rfl
theorem ent_21 : EntersF Tryz.prog 21 := enters_of' Tryz.func21 (by kernel_rfl) rfl
theorem ent_22 : EntersF Tryz.prog 22 := enters_of' Tryz.func22 (by kernel_rfl) rfl
theorem ent_23 : EntersF Tryz.prog 23 := enters_of' Tryz.func23 (by kernel_rfl) rfl
theorem ent_24 : EntersF Tryz.prog 24 := enters_of' Tryz.func24 (by kernel_rfl) rfl
theorem ent_30 : EntersF Tryz.prog 30 := enters_of' Tryz.func30 (by kernel_rfl) rfl
theorem ent_31 : EntersF Tryz.prog 31 := enters_of' Tryz.func31 (by kernel_rfl) rfl
theorem ent_32 : EntersF Tryz.prog 32 := enters_of' Tryz.func32 (by kernel_rfl) rfl
theorem ent_33 : EntersF Tryz.prog 33 := enters_of' Tryz.func33 (by kernel_rfl) rfl
theorem ent_34 : EntersF Tryz.prog 34 := enters_of' Tryz.func34 (by kernel_rfl) rfl
theorem ent_35 : EntersF Tryz.prog 35 := enters_of' Tryz.func35 (by kernel_rfl) rfl
theorem ent_38 : EntersF Tryz.prog 38 := enters_of' Tryz.func38 (by kernel_rfl) rfl
theorem ent_39 : EntersF Tryz.prog 39 := enters_of' Tryz.func39 (by kernel_rfl) rfl
theorem ent_40 : EntersF Tryz.prog 40 := enters_of' Tryz.func40 (by kernel_rfl) rfl
theorem ent_41 : EntersF Tryz.prog 41 := enters_of' Tryz.func41 (by kernel_rfl) rfl
theorem ent_48 : EntersF Tryz.prog 48 := enters_of' Tryz.func48 (by kernel_rfl) rfl
theorem ent_52 : EntersF Tryz.prog 52 := enters_of' Tryz.func52 (by kernel_rfl) rfl
theorem ent_53 : EntersF Tryz.prog 53 := enters_of' Tryz.func53 (by kernel_rfl) rfl
theorem ent_54 : EntersF Tryz.prog 54 := enters_of' Tryz.func54 (by kernel_rfl) rfl
theorem ent_55 : EntersF Tryz.prog 55 := enters_of' Tryz.func55 (by kernel_rfl) rfl
theorem ent_56 : EntersF Tryz.prog 56 := enters_of' Tryz.func56 (by kernel_rfl) rfl
theorem ent_57 : EntersF Tryz.prog 57 := enters_of' Tryz.func57 (by kernel_rfl) rfl
theorem ent_58 : EntersF Tryz.prog 58 := enters_of' Tryz.func58 (by kernel_rfl) rfl
theorem ent_59 : EntersF Tryz.prog 59 := enters_of' Tryz.func59 (by kernel_rfl) rfl
theorem ent_63 : EntersF Tryz.prog 63 := enters_of' Tryz.func63 (by kernel_rfl) rfl
theorem ent_64 : EntersF Tryz.prog 64 := enters_of' Tryz.func64 (by kernel_rfl) rfl
theorem ent_65 : EntersF Tryz.prog 65 := enters_of' Tryz.func65 (by kernel_rfl) rfl
theorem ent_66 : EntersF Tryz.prog 66 := enters_of' Tryz.func66 (by kernel_rfl) rfl
theorem ent_67 : EntersF Tryz.prog 67 := enters_of' Tryz.func67 (by kernel_rfl) rfl
theorem ent_68 : EntersF Tryz.prog 68 := enters_of' Tryz.func68 (by kernel_rfl) rfl
theorem ent_69 : EntersF Tryz.prog 69 := enters_of' Tryz.func69 (by kernel_rfl) rfl
theorem ent_70 : EntersF Tryz.prog 70 := enters_of' Tryz.func70 (by kernel_rfl) rfl
theorem ent_71 : EntersF Tryz.prog 71 := enters_of' Tryz.func71 (by kernel_rfl) rfl
theorem ent_72 : EntersF Tryz.prog 72 := enters_of' Tryz.func72 (by kernel_rfl) rfl
theorem ent_78 : EntersF Tryz.prog 78 := enters_of' Tryz.func78 (by kernel_rfl) rfl
theorem ent_79 : EntersF Tryz.prog 79 := enters_of' Tryz.func79 (by kernel_rfl) rfl
theorem ent_80 : EntersF Tryz.prog 80 := enters_of' Tryz.func80 (by kernel_rfl) rfl
theorem ent_84 : EntersF Tryz.prog 84 := enters_of' Tryz.func84 (by kernel_rfl) rfl
theorem ent_85 : EntersF Tryz.prog 85 := enters_of' Tryz.func85 (by kernel_rfl) rfl
theorem ent_88 : EntersF Tryz.prog 88 := enters_of' Tryz.func88 (by kernel_rfl) rfl
theorem ent_89 : EntersF Tryz.prog 89 := enters_of' Tryz.func89 (by kernel_rfl) rfl
theorem ent_90 : EntersF Tryz.prog 90 := enters_of' Tryz.func90 (by kernel_rfl) rfl
theorem ent_91 : EntersF Tryz.prog 91 := enters_of' Tryz.func91 (by kernel_rfl) rfl
theorem ent_92 : EntersF Tryz.prog 92 := enters_of' Tryz.func92 (by kernel_rfl) rfl
theorem ent_93 : EntersF Tryz.prog 93 := enters_of' Tryz.func93 (by kernel_rfl) rfl
theorem ent_94 : EntersF Tryz.prog 94 := enters_of' Tryz.func94 (by kernel_rfl) rfl
theorem ent_95 : EntersF Tryz.prog 95 := enters_of' Tryz.func95 (by kernel_rfl) rfl
theorem ent_96 : EntersF Tryz.prog 96 := enters_of' Tryz.func96 (by kernel_rfl) rfl
theorem ent_99 : EntersF Tryz.prog 99 := enters_of' Tryz.func99 (by kernel_rfl) rfl
theorem ent_102 : EntersF Tryz.prog 102 := enters_of' Tryz.func102 (by kernel_rfl) rfl
theorem ent_105 : EntersF Tryz.prog 105 := enters_of' Tryz.func105 (by kernel_rfl) rfl
theorem ent_106 : EntersF Tryz.prog 106 := enters_of' Tryz.func106 (by kernel_rfl) rfl
theorem ent_107 : EntersF Tryz.prog 107 := enters_of' Tryz.func107 (by kernel_rfl) rfl
end Go.Proofs.YtpciioffkjpieaaGreatDoor
