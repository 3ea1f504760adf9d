/- Walks, printed by an own program: the machine's calls compute the plain functions. -/
import Derived.Test.YtpciioffkjpieaaDoorZ2
import Derived.Test.YtpciioffkjpieaaDoorD
import Derived.Test.YtpciioffkjpieaaDoorS
import Derived.Test.YtpciioffkjpieaaDoorProg
set_option linter.unusedVariables false
set_option linter.unusedSimpArgs false
namespace Go.Proofs.YtpciioffkjpieaaDoor
open Go Go.Proofs.XC
def tabU : List (Nat × TypeDesc) := [(3, .int .i64), (21, .int .i32), (23, .slice 21), (34, .slice 37), (37, .struct #[⟨ "Rune", 21, 0, false, "", "", 0⟩, ⟨ "Style", 3, 1, false, "", "", 8⟩]), (40, .slice 3), (53, .slice 34), (55, .struct #[⟨ "Lines", 53, 0, false, "", "", 0⟩, ⟨ "From", 3, 1, false, "", "", 24⟩, ⟨ "To", 3, 2, false, "", "", 32⟩, ⟨ "W", 3, 3, false, "", "", 40⟩]), (56, .array 2 3), (57, .pointer 119), (62, .slice 68), (64, .struct #[⟨ "l", 62, 0, false, "", "tidewrack/spans", 0⟩]), (68, .struct #[⟨ "From", 3, 0, false, "", "", 0⟩, ⟨ "To", 3, 1, false, "", "", 8⟩]), (96, .slice 98), (98, .struct #[⟨ "from", 21, 0, false, "", "tidewrack/wide", 0⟩, ⟨ "to", 21, 1, false, "", "tidewrack/wide", 4⟩]), (99, .array 13 98), (100, .array 14 98), (117, .map 3 130), (119, .struct #[⟨ "most", 3, 0, false, "", "tidewrack/cache", 0⟩, ⟨ "now", 3, 1, false, "", "tidewrack/cache", 8⟩, ⟨ "l", 117, 2, false, "", "tidewrack/cache", 16⟩]), (130, .struct #[⟨ "l", 34, 0, false, "", "tidewrack/cache", 0⟩, ⟨ "at", 3, 1, false, "", "tidewrack/cache", 24⟩]), (163, .slice 62)]
def tabI : List (Nat × (Nat × Nat × Value)) := [(3, (1, 8, (.int .i64 0))), (21, (1, 4, (.int .i32 0))), (23, (1, 24, (.slice none 0 0))), (34, (1, 24, (.slice none 0 0))), (37, (2, 16, (.agg #[(.int .i32 0), (.int .i64 0)]))), (53, (1, 24, (.slice none 0 0))), (55, (4, 48, (.agg #[(.slice none 0 0), (.int .i64 0), (.int .i64 0), (.int .i64 0)]))), (56, (2, 16, (.agg #[(.int .i64 0), (.int .i64 0)]))), (57, (1, 8, (.pointer none))), (62, (1, 24, (.slice none 0 0))), (64, (1, 24, (.agg #[(.slice none 0 0)]))), (68, (2, 16, (.agg #[(.int .i64 0), (.int .i64 0)]))), (98, (2, 8, (.agg #[(.int .i32 0), (.int .i32 0)]))), (99, (26, 104, (.agg #[(.int .i32 0), (.int .i32 0), (.int .i32 0), (.int .i32 0), (.int .i32 0), (.int .i32 0), (.int .i32 0), (.int .i32 0), (.int .i32 0), (.int .i32 0), (.int .i32 0), (.int .i32 0), (.int .i32 0), (.int .i32 0), (.int .i32 0), (.int .i32 0), (.int .i32 0), (.int .i32 0), (.int .i32 0), (.int .i32 0), (.int .i32 0), (.int .i32 0), (.int .i32 0), (.int .i32 0), (.int .i32 0), (.int .i32 0)]))), (100, (28, 112, (.agg #[(.int .i32 0), (.int .i32 0), (.int .i32 0), (.int .i32 0), (.int .i32 0), (.int .i32 0), (.int .i32 0), (.int .i32 0), (.int .i32 0), (.int .i32 0), (.int .i32 0), (.int .i32 0), (.int .i32 0), (.int .i32 0), (.int .i32 0), (.int .i32 0), (.int .i32 0), (.int .i32 0), (.int .i32 0), (.int .i32 0), (.int .i32 0), (.int .i32 0), (.int .i32 0), (.int .i32 0), (.int .i32 0), (.int .i32 0), (.int .i32 0), (.int .i32 0)]))), (117, (1, 8, (.map none))), (119, (3, 24, (.agg #[(.int .i64 0), (.int .i64 0), (.map none)]))), (130, (2, 32, (.agg #[(.slice none 0 0), (.int .i64 0)])))]
abbrev T : Tab := ⟨tabU, tabI⟩
theorem tab : TabOK Tryd.prog T := by
  refine ⟨?_, ?_⟩
  · simp only [tabU, List.forall_mem_cons]
    exact ⟨Tryd.underlying3, Tryd.underlying21, Tryd.underlying23, Tryd.underlying34, Tryd.underlying37, Tryd.underlying40, Tryd.underlying53, Tryd.underlying55, Tryd.underlying56, Tryd.underlying57, Tryd.underlying62, Tryd.underlying64, Tryd.underlying68, Tryd.underlying96, Tryd.underlying98, Tryd.underlying99, Tryd.underlying100, Tryd.underlying117, Tryd.underlying119, Tryd.underlying130, Tryd.underlying163, by simp⟩
  · simp only [tabI, List.forall_mem_cons]
    exact ⟨by kernel_rfl, by kernel_rfl, by kernel_rfl, by kernel_rfl, by kernel_rfl, by kernel_rfl, by kernel_rfl, by kernel_rfl, by kernel_rfl, by kernel_rfl, by kernel_rfl, by kernel_rfl, by kernel_rfl, by kernel_rfl, by kernel_rfl, by kernel_rfl, by kernel_rfl, by kernel_rfl, by simp⟩
def ET36 : Enc T36 := ⟨2, fun x => [.int .i32 x.Rune, .int .i64 x.Style], fun _ => rfl, fun _ => rfl⟩
structure NT129 where
  x : T129
  A : Option Addr
  c : Nat
def dT129 : ND T129 := ⟨NT129, ⟨2, fun r => [.slice r.A (r.x.l).length r.c, .int .i64 r.x.at_], fun _ => rfl, fun _ => rfl⟩, fun r => r.x, fun r w => RdC ET36 r.A r.x.l w ∧ (r.x.l).length ≤ r.c⟩
theorem elT129 {w : World} {o : Nat → Nat} {L F : Nat} {ad : Addr} {xs : List T129} (h : NRd dT129 (some ad) xs w o L F) {i : Int} (hi : 0 ≤ i ∧ i < (xs.length : Int)) :
    ∃ A c, Ft (fun W => CellsAt (ad.add (i.toNat * 2)) [.slice A ((rdD zT129 xs i).l).length c, .int .i64 (rdD zT129 xs i).at_] W) w o L ∧ Ft (RdC ET36 A (rdD zT129 xs i).l) w o F ∧ ((rdD zT129 xs i).l).length ≤ c := by
  obtain ⟨⟨x, A, c⟩, e, hc, hn⟩ := NRd.el h zT129 hi
  have e : x = rdD zT129 xs i := e
  subst e
  exact ⟨A, c, hc, hn.imp fun W hW => hW.1, hn.now.2⟩
theorem lkT129 {P : Program} {w : World} {o : Nat → Nat} {L F : Nat} {A : Option Addr} {m : M T129} (h : MpN dT129 true A m w o L F) (ht : TabOK P T) {mt kt et s bb : Nat} {z : Value} (hm : find T.und mt = some (.map kt et)) (hkt : find T.und kt = some (.int .i64)) (hz : find T.inf et = some (s, bb, z)) (hzx : z = ev dT129.E true (⟨zT129, none, 0⟩ : NT129)) (k : Int) :
    ∃ A' c, Ft (LookIs P mt (mv A) k (.agg #[.slice A' ((M.get zT129 m k).l).length c, .int .i64 (M.get zT129 m k).at_]) (m.has k)) w o L ∧ Ft (RdC ET36 A' (M.get zT129 m k).l) w o F ∧ ((M.get zT129 m k).l).length ≤ c := by
  obtain ⟨⟨x, A', c⟩, e, hl, hi⟩ := MpN.at h ht hm hkt hz (⟨zT129, none, 0⟩ : NT129) hzx (fun W => ⟨fun h_ => absurd h_ (by simp), Nat.le_refl _⟩) k
  have e : x = M.get zT129 m k := e
  subst e
  exact ⟨A', c, hl, hi.imp fun W hW => hW.1, hi.now.2⟩
def ET97 : Enc T97 := ⟨2, fun x => [.int .i32 x.from_, .int .i32 x.to], fun _ => rfl, fun _ => rfl⟩
def ET67 : Enc T67 := ⟨2, fun x => [.int .i64 x.From, .int .i64 x.To], fun _ => rfl, fun _ => rfl⟩
theorem stood : ∀ t ∈ [37], Tryd.prog.stoodInHeld t = false ∧ Tryd.prog.eqGuardType Tryd.prog.depth t = false := by
  simp only [List.forall_mem_cons]
  exact ⟨⟨by kernel_rfl, by kernel_rfl⟩, by simp⟩
theorem mixed : Tryd.prog.follows .mixedOrders = true := by kernel_rfl
theorem ent_8 : EntersF Tryd.prog 8 := enters_of' Tryd.func8 (by kernel_rfl) rfl
theorem ent_11 : EntersF Tryd.prog 11 := enters_of' Tryd.func11 (by kernel_rfl) rfl
theorem ent_18 : EntersF Tryd.prog 18 := enters_of' Tryd.func18 (by kernel_rfl) rfl
theorem ent_19 : EntersF Tryd.prog 19 := enters_of' Tryd.func19 (by kernel_rfl) rfl
theorem ent_20 : EntersF Tryd.prog 20 := enters_of' Tryd.func20 (by kernel_rfl) rfl
theorem ent_21 : EntersF Tryd.prog 21 := enters_of' Tryd.func21 (by kernel_rfl) rfl
theorem ent_22 : EntersF Tryd.prog 22 := enters_of' Tryd.func22 (by kernel_rfl) rfl
theorem ent_23 : EntersF Tryd.prog 23 := enters_of' Tryd.func23 (by kernel_rfl) rfl
theorem ent_24 : EntersF Tryd.prog 24 := enters_of' Tryd.func24 (by kernel_rfl) rfl
theorem ent_25 : EntersF Tryd.prog 25 := enters_of' Tryd.func25 (by kernel_rfl) rfl
theorem ent_26 : EntersF Tryd.prog 26 := enters_of' Tryd.func26 (by kernel_rfl) rfl
theorem ent_36 : EntersF Tryd.prog 36 := enters_of' Tryd.func36 (by kernel_rfl) rfl
theorem ent_39 : EntersF Tryd.prog 39 := enters_of' Tryd.func39 (by kernel_rfl) rfl
theorem ent_46 : EntersF Tryd.prog 46 := enters_of' Tryd.func46 (by kernel_rfl) rfl
theorem ent_47 : EntersF Tryd.prog 47 := enters_of' Tryd.func47 (by kernel_rfl) rfl
theorem ent_48 : EntersF Tryd.prog 48 := enters_of' Tryd.func48 (by kernel_rfl) rfl
theorem ent_49 : EntersF Tryd.prog 49 := enters_of' Tryd.func49 (by kernel_rfl) rfl
theorem ent_50 : EntersF Tryd.prog 50 := enters_of' Tryd.func50 (by kernel_rfl) rfl
theorem ent_51 : EntersF Tryd.prog 51 := enters_of' Tryd.func51 (by kernel_rfl) rfl
theorem ent_52 : EntersF Tryd.prog 52 := enters_of' Tryd.func52 (by kernel_rfl) rfl
theorem ent_53 : EntersF Tryd.prog 53 := enters_of' Tryd.func53 (by kernel_rfl) rfl
theorem ent_54 : EntersF Tryd.prog 54 := enters_of' Tryd.func54 (by kernel_rfl) rfl
theorem ent_55 : EntersF Tryd.prog 55 := enters_of' Tryd.func55 (by kernel_rfl) rfl
theorem ent_56 : EntersF Tryd.prog 56 := enters_of' Tryd.func56 (by kernel_rfl) rfl
theorem ent_57 : EntersF Tryd.prog 57 := enters_of' Tryd.func57 (by kernel_rfl) rfl
theorem ent_58 : EntersF Tryd.prog 58 := enters_of' Tryd.func58 (by kernel_rfl) rfl
theorem ent_59 : EntersF Tryd.prog 59 := enters_of' Tryd.func59 (by kernel_rfl) rfl
theorem ent_60 : EntersF Tryd.prog 60 := enters_of' Tryd.func60 (by kernel_rfl) rfl
theorem ent_73 : EntersF Tryd.prog 73 := enters_of' Tryd.func73 (by kernel_rfl) rfl
theorem ent_83 : EntersF Tryd.prog 83 := enters_of' Tryd.func83 (by kernel_rfl) rfl
theorem ent_84 : EntersF Tryd.prog 84 := enters_of' Tryd.func84 (by kernel_rfl) rfl
theorem ent_87 : EntersF Tryd.prog 87 := enters_of' Tryd.func87 (by kernel_rfl) rfl
theorem ent_88 : EntersF Tryd.prog 88 := enters_of' Tryd.func88 (by kernel_rfl) rfl
theorem ent_89 : EntersF Tryd.prog 89 := enters_of' Tryd.func89 (by kernel_rfl) rfl
theorem ent_90 : EntersF Tryd.prog 90 := enters_of' Tryd.func90 (by kernel_rfl) rfl
end Go.Proofs.YtpciioffkjpieaaDoor
