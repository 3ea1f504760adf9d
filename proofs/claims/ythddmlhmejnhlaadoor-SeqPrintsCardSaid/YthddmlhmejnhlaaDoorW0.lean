/- Walks, printed by an own program: the machine's calls compute the plain functions. -/
import Derived.Test.YthddmlhmejnhlaaDoorZ2
import Derived.Test.YthddmlhmejnhlaaDoorD
import Derived.Test.YthddmlhmejnhlaaDoorProg
set_option linter.unusedVariables false
set_option linter.unusedSimpArgs false
namespace Go.Proofs.YthddmlhmejnhlaaDoor
open Go Go.Proofs.XC
def ET27 : Enc T27 := ⟨3, fun x => [.int .u8 x.Lead, .int .i32 x.Rune, .int .i64 x.Need], fun _ => rfl, fun _ => rfl⟩
structure NT37 where
  x : T37
  A : Option Addr
  c : Nat
def dT37 : ND T37 := ⟨NT37, ⟨6, fun r => [.int .i64 r.x.Kind, .int .i32 r.x.Rune, .int .u8 r.x.Byte, .bool r.x.Private, .slice r.A (r.x.Nums).length r.c, .string r.x.Text], fun _ => rfl, fun _ => rfl⟩, fun r => r.x, fun r w => RdC (encInt .i64) r.A r.x.Nums w ∧ (r.x.Nums).length ≤ r.c⟩
theorem elT37 {w : World} {o : Nat → Nat} {L F : Nat} {ad : Addr} {xs : List T37} (h : NRd dT37 (some ad) xs w o L F) {i : Int} (hi : 0 ≤ i ∧ i < (xs.length : Int)) :
    ∃ A c, Ft (fun W => CellsAt (ad.add (i.toNat * 6)) [.int .i64 (rdD zT37 xs i).Kind, .int .i32 (rdD zT37 xs i).Rune, .int .u8 (rdD zT37 xs i).Byte, .bool (rdD zT37 xs i).Private, .slice A ((rdD zT37 xs i).Nums).length c, .string (rdD zT37 xs i).Text] W) w o L ∧ Ft (RdC (encInt .i64) A (rdD zT37 xs i).Nums) w o F ∧ ((rdD zT37 xs i).Nums).length ≤ c := by
  obtain ⟨⟨x, A, c⟩, e, hc, hn⟩ := NRd.el h zT37 hi
  have e : x = rdD zT37 xs i := e
  subst e
  exact ⟨A, c, hc, hn.imp fun W hW => hW.1, hn.now.2⟩
def ET70 : Enc T70 := ⟨5, fun x => [.int .u8 x.first, .int .u8 x.last, .int .i64 x.need, .int .u8 x.low, .int .u8 x.high], fun _ => rfl, fun _ => rfl⟩
structure NT47 where
  x : T47
  A : Option Addr
  c : Nat
def dT47 : ND T47 := ⟨NT47, ⟨6, fun r => [.int .i64 r.x.Kind, .int .i64 r.x.Rune, .int .i64 r.x.Byte, .bool r.x.Private, .slice r.A (r.x.Nums).length r.c, .string r.x.Text], fun _ => rfl, fun _ => rfl⟩, fun r => r.x, fun r w => RdC (encInt .i64) r.A r.x.Nums w ∧ (r.x.Nums).length ≤ r.c⟩
theorem elT47 {w : World} {o : Nat → Nat} {L F : Nat} {ad : Addr} {xs : List T47} (h : NRd dT47 (some ad) xs w o L F) {i : Int} (hi : 0 ≤ i ∧ i < (xs.length : Int)) :
    ∃ A c, Ft (fun W => CellsAt (ad.add (i.toNat * 6)) [.int .i64 (rdD zT47 xs i).Kind, .int .i64 (rdD zT47 xs i).Rune, .int .i64 (rdD zT47 xs i).Byte, .bool (rdD zT47 xs i).Private, .slice A ((rdD zT47 xs i).Nums).length c, .string (rdD zT47 xs i).Text] W) w o L ∧ Ft (RdC (encInt .i64) A (rdD zT47 xs i).Nums) w o F ∧ ((rdD zT47 xs i).Nums).length ≤ c := by
  obtain ⟨⟨x, A, c⟩, e, hc, hn⟩ := NRd.el h zT47 hi
  have e : x = rdD zT47 xs i := e
  subst e
  exact ⟨A, c, hc, hn.imp fun W hW => hW.1, hn.now.2⟩
def tabU : List (Nat × TypeDesc) := [(3, .int .i64), (4, .bool), (5, .int .u8), (9, .string), (21, .int .i32), (24, .slice 3), (26, .struct #[⟨ "private", 4, 0, false, "", "tidewrack/seq", 0⟩, ⟨ "wrong", 4, 1, false, "", "tidewrack/seq", 1⟩, ⟨ "any", 4, 2, false, "", "tidewrack/seq", 2⟩, ⟨ "some", 4, 3, false, "", "tidewrack/seq", 3⟩, ⟨ "n", 3, 4, false, "", "tidewrack/seq", 8⟩, ⟨ "nums", 24, 5, false, "", "tidewrack/seq", 16⟩]), (28, .struct #[⟨ "Lead", 5, 0, false, "", "", 0⟩, ⟨ "Rune", 21, 1, false, "", "", 4⟩, ⟨ "Need", 3, 2, false, "", "", 8⟩]), (29, .slice 38), (31, .struct #[⟨ "state", 3, 0, false, "", "tidewrack/seq", 0⟩, ⟨ "order", 26, 1, true, "", "tidewrack/seq", 8⟩, ⟨ "text", 9, 7, false, "", "tidewrack/seq", 48⟩, ⟨ "runes", 28, 8, false, "", "tidewrack/seq", 64⟩, ⟨ "out", 29, 11, false, "", "tidewrack/seq", 80⟩]), (34, .slice 48), (38, .struct #[⟨ "Kind", 3, 0, false, "", "", 0⟩, ⟨ "Rune", 21, 1, false, "", "", 8⟩, ⟨ "Byte", 5, 2, false, "", "", 12⟩, ⟨ "Private", 4, 3, false, "", "", 13⟩, ⟨ "Nums", 24, 4, false, "", "", 16⟩, ⟨ "Text", 9, 5, false, "", "", 40⟩]), (40, .pointer 31), (43, .slice 21), (48, .struct #[⟨ "Kind", 3, 0, false, "", "", 0⟩, ⟨ "Rune", 3, 1, false, "", "", 8⟩, ⟨ "Byte", 3, 2, false, "", "", 16⟩, ⟨ "Private", 4, 3, false, "", "", 24⟩, ⟨ "Nums", 24, 4, false, "", "", 32⟩, ⟨ "Text", 9, 5, false, "", "", 56⟩]), (54, .slice 5), (66, .slice 9), (71, .struct #[⟨ "first", 5, 0, false, "", "tidewrack/glyph", 0⟩, ⟨ "last", 5, 1, false, "", "tidewrack/glyph", 1⟩, ⟨ "need", 3, 2, false, "", "tidewrack/glyph", 8⟩, ⟨ "low", 5, 3, false, "", "tidewrack/glyph", 16⟩, ⟨ "high", 5, 4, false, "", "tidewrack/glyph", 17⟩]), (74, .array 8 71)]
def tabI : List (Nat × (Nat × Nat × Value)) := [(3, (1, 8, (.int .i64 0))), (4, (1, 1, (.bool false))), (5, (1, 1, (.int .u8 0))), (9, (1, 16, (.string ⟨#[]⟩))), (21, (1, 4, (.int .i32 0))), (24, (1, 24, (.slice none 0 0))), (26, (6, 40, (.agg #[(.bool false), (.bool false), (.bool false), (.bool false), (.int .i64 0), (.slice none 0 0)]))), (28, (3, 16, (.agg #[(.int .u8 0), (.int .i32 0), (.int .i64 0)]))), (29, (1, 24, (.slice none 0 0))), (31, (12, 104, (.agg #[(.int .i64 0), (.bool false), (.bool false), (.bool false), (.bool false), (.int .i64 0), (.slice none 0 0), (.string ⟨#[]⟩), (.int .u8 0), (.int .i32 0), (.int .i64 0), (.slice none 0 0)]))), (38, (6, 56, (.agg #[(.int .i64 0), (.int .i32 0), (.int .u8 0), (.bool false), (.slice none 0 0), (.string ⟨#[]⟩)]))), (48, (6, 72, (.agg #[(.int .i64 0), (.int .i64 0), (.int .i64 0), (.bool false), (.slice none 0 0), (.string ⟨#[]⟩)]))), (71, (5, 24, (.agg #[(.int .u8 0), (.int .u8 0), (.int .i64 0), (.int .u8 0), (.int .u8 0)]))), (74, (40, 192, (.agg #[(.int .u8 0), (.int .u8 0), (.int .i64 0), (.int .u8 0), (.int .u8 0), (.int .u8 0), (.int .u8 0), (.int .i64 0), (.int .u8 0), (.int .u8 0), (.int .u8 0), (.int .u8 0), (.int .i64 0), (.int .u8 0), (.int .u8 0), (.int .u8 0), (.int .u8 0), (.int .i64 0), (.int .u8 0), (.int .u8 0), (.int .u8 0), (.int .u8 0), (.int .i64 0), (.int .u8 0), (.int .u8 0), (.int .u8 0), (.int .u8 0), (.int .i64 0), (.int .u8 0), (.int .u8 0), (.int .u8 0), (.int .u8 0), (.int .i64 0), (.int .u8 0), (.int .u8 0), (.int .u8 0), (.int .u8 0), (.int .i64 0), (.int .u8 0), (.int .u8 0)])))]
abbrev T : Tab := ⟨tabU, tabI⟩
theorem tab : TabOK Tryd.prog T := by
  refine ⟨?_, ?_⟩
  · simp only [tabU, List.forall_mem_cons]
    exact ⟨Tryd.underlying3, Tryd.underlying4, Tryd.underlying5, Tryd.underlying9, Tryd.underlying21, Tryd.underlying24, Tryd.underlying26, Tryd.underlying28, Tryd.underlying29, Tryd.underlying31, Tryd.underlying34, Tryd.underlying38, Tryd.underlying40, Tryd.underlying43, Tryd.underlying48, Tryd.underlying54, Tryd.underlying66, Tryd.underlying71, Tryd.underlying74, by simp⟩
  · simp only [tabI, List.forall_mem_cons]
    exact ⟨by kernel_rfl, by kernel_rfl, by kernel_rfl, by kernel_rfl, by kernel_rfl, by kernel_rfl, by kernel_rfl, by kernel_rfl, by kernel_rfl, by kernel_rfl, by kernel_rfl, by kernel_rfl, by kernel_rfl, by kernel_rfl, by simp⟩
theorem mixed : Tryd.prog.follows .mixedOrders = true := by kernel_rfl
theorem ent_9 : EntersF Tryd.prog 9 := enters_of' Tryd.func9 (by kernel_rfl) rfl
theorem ent_10 : EntersF Tryd.prog 10 := enters_of' Tryd.func10 (by kernel_rfl) rfl
theorem ent_11 : EntersF Tryd.prog 11 := enters_of' Tryd.func11 (by kernel_rfl) rfl
theorem ent_12 : EntersF Tryd.prog 12 := enters_of' Tryd.func12 (by kernel_rfl) rfl
theorem ent_13 : EntersF Tryd.prog 13 := enters_of' Tryd.func13 (by kernel_rfl) rfl
theorem ent_14 : EntersF Tryd.prog 14 := enters_of' Tryd.func14 (by kernel_rfl) rfl
theorem ent_15 : EntersF Tryd.prog 15 := enters_of' Tryd.func15 (by kernel_rfl) rfl
theorem ent_16 : EntersF Tryd.prog 16 := enters_of' Tryd.func16 (by kernel_rfl) rfl
theorem ent_17 : EntersF Tryd.prog 17 := enters_of' Tryd.func17 (by kernel_rfl) rfl
theorem ent_18 : EntersF Tryd.prog 18 := enters_of' Tryd.func18 (by kernel_rfl) rfl
theorem ent_19 : EntersF Tryd.prog 19 := enters_of' Tryd.func19 (by kernel_rfl) rfl
theorem ent_20 : EntersF Tryd.prog 20 := enters_of' Tryd.func20 (by kernel_rfl) rfl
theorem ent_21 : EntersF Tryd.prog 21 := enters_of' Tryd.func21 (by kernel_rfl) rfl
theorem ent_22 : EntersF Tryd.prog 22 := enters_of' Tryd.func22 (by kernel_rfl) rfl
theorem ent_23 : EntersF Tryd.prog 23 := enters_of' Tryd.func23 (by kernel_rfl) rfl
theorem ent_24 : EntersF Tryd.prog 24 := enters_of' Tryd.func24 (by kernel_rfl) rfl
theorem ent_25 : EntersF Tryd.prog 25 := enters_of' Tryd.func25 (by kernel_rfl) rfl
theorem ent_26 : EntersF Tryd.prog 26 := enters_of' Tryd.func26 (by kernel_rfl) rfl
theorem ent_27 : EntersF Tryd.prog 27 := enters_of' Tryd.func27 (by kernel_rfl) rfl
theorem ent_28 : EntersF Tryd.prog 28 := enters_of' Tryd.func28 (by kernel_rfl) rfl
theorem ent_29 : EntersF Tryd.prog 29 := enters_of' Tryd.func29 (by kernel_rfl) rfl
theorem ent_30 : EntersF Tryd.prog 30 := enters_of' Tryd.func30 (by kernel_rfl) rfl
theorem ent_31 : EntersF Tryd.prog 31 := enters_of' Tryd.func31 (by kernel_rfl) rfl
theorem ent_32 : EntersF Tryd.prog 32 := enters_of' Tryd.func32 (by kernel_rfl) rfl
theorem ent_33 : EntersF Tryd.prog 33 := enters_of' Tryd.func33 (by kernel_rfl) rfl
theorem ent_34 : EntersF Tryd.prog 34 := enters_of' Tryd.func34 (by kernel_rfl) rfl
theorem ent_35 : EntersF Tryd.prog 35 := enters_of' Tryd.func35 (by kernel_rfl) rfl
theorem ent_36 : EntersF Tryd.prog 36 := enters_of' Tryd.func36 (by kernel_rfl) rfl
theorem ent_37 : EntersF Tryd.prog 37 := enters_of' Tryd.func37 (by kernel_rfl) rfl
theorem ent_38 : EntersF Tryd.prog 38 := enters_of' Tryd.func38 (by kernel_rfl) rfl
theorem ent_39 : EntersF Tryd.prog 39 := enters_of' Tryd.func39 (by kernel_rfl) rfl
theorem ent_40 : EntersF Tryd.prog 40 := enters_of' Tryd.func40 (by kernel_rfl) rfl
theorem ent_41 : EntersF Tryd.prog 41 := enters_of' Tryd.func41 (by kernel_rfl) rfl
theorem ent_42 : EntersF Tryd.prog 42 := enters_of' Tryd.func42 (by kernel_rfl) rfl
theorem ent_43 : EntersF Tryd.prog 43 := enters_of' Tryd.func43 (by kernel_rfl) rfl
end Go.Proofs.YthddmlhmejnhlaaDoor
